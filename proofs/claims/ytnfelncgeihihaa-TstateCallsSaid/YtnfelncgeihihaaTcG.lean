/- tstate: reading any bytes (part 1): the next number, plainly; states of the loops that put it together. Printed by vc.py: what must hold for functions' ways (TcV). tstate: reading any bytes (part 2): the next number, by the program and by the document. tstate: reading any bytes (part 3): the next number as a way; states of the loops that read a screen. Printed by vc.py: what must hold for functions' ways (TcW). tstate: reading any bytes (part 4): Count; what comes of seven numbers. Printed by vc.py: what must hold for functions' ways (TcX). tstate: the document's times, frames and pulses (part 1): what is known ahead. tstate: reading any bytes (part 5): the loops that read a screen. Printed by vc.py: what must hold for functions' ways (TcY). tstate: reading any bytes (part 6): a screen read, by the program and by the document. -/
import Derived.Test.YtnfelncgeihihaaTbK
namespace Go.Proofs.Ytnfelncgeihihaa.V
open Go Go.Proofs
set_option maxRecDepth 100000
set_option linter.unusedSimpArgs false
set_option linter.unusedVariables false
/-- Bytes from a place on, the highest first: so many of them put together. -/
def hv (bz : Nat → Int) (o k : Nat) : Nat → Int
  | 0 => 0
  | j + 1 => hv bz o k j * 256 + bz (o + (k - j))
structure RS where
  o : Nat
  n : Nat
  e : Int
/-- The next number: it, and what comes of a reader. -/
def nu (bz : Nat → Int) (s : RS) : Int × RS :=
  if s.e = 0 then
    if s.n = 0 then (0, ⟨s.o, s.n, 5⟩)
    else if bz s.o ≤ 247 then (bz s.o, ⟨s.o + 1, s.n - 1, 0⟩)
    else if s.n < 1 + (bz s.o - 247).toNat then (0, ⟨s.o, s.n, 5⟩)
    else if bz (s.o + (bz s.o - 247).toNat) = 0 ∨ hv bz s.o (bz s.o - 247).toNat (bz s.o - 247).toNat ≤ 247 then (0, ⟨s.o, s.n, 4⟩)
    else (hv bz s.o (bz s.o - 247).toNat (bz s.o - 247).toNat, ⟨s.o + (1 + (bz s.o - 247).toNat), s.n - (1 + (bz s.o - 247).toNat), 0⟩)
  else (0, s)
/-- The next number up to 1000. -/
def cu (bz : Nat → Int) (s : RS) : Int × RS :=
  if (nu bz s).2.e = 0 then (if (nu bz s).1 > 1000 then (0, ⟨(nu bz s).2.o, (nu bz s).2.n, 3⟩) else nu bz s) else (0, (nu bz s).2)
/-- Cells that are these bytes. -/
def Byt (cs : List AV) (bz : Nat → Int) : Prop := pfs cs = true ∧ ∀ j, j < cs.length → cs.getD j (.tup []) = .int .u8 (bz j) ∧ 0 ≤ bz j ∧ bz j ≤ 255
theorem hv_bd {cs : List AV} {bz : Nat → Int} (h : Byt cs bz) {o k : Nat} (hk : o + k < cs.length) : ∀ j, j ≤ k → 0 ≤ hv bz o k j ∧ hv bz o k j < 256 ^ j
  | 0, _ => by simp [hv]
  | j + 1, hj => by
    obtain ⟨a, b⟩ := hv_bd h hk j (by omega)
    obtain ⟨_, c, d⟩ := h.2 (o + (k - j)) (by omega)
    simp only [hv]
    refine ⟨by omega, ?_⟩
    rw [Int.pow_succ]
    omega
theorem pow_le8 {j : Nat} (h : j ≤ 8) : (256 : Int) ^ j ≤ 18446744073709551616 :=
  match j, h with
  | 0, _ => by decide
  | 1, _ => by decide
  | 2, _ => by decide
  | 3, _ => by decide
  | 4, _ => by decide
  | 5, _ => by decide
  | 6, _ => by decide
  | 7, _ => by decide
  | 8, _ => by decide
  | i + 9, h => absurd h (by omega)
theorem pow_le7 {j : Nat} (h : j ≤ 7) : (256 : Int) ^ j ≤ 72057594037927936 :=
  match j, h with
  | 0, _ => by decide
  | 1, _ => by decide
  | 2, _ => by decide
  | 3, _ => by decide
  | 4, _ => by decide
  | 5, _ => by decide
  | 6, _ => by decide
  | 7, _ => by decide
  | i + 8, h => absurd h (by omega)
theorem or_byte {x b : Int} (x0 : 0 ≤ x) (x1 : x < 72057594037927936) (b0 : 0 ≤ b) (b1 : b ≤ 255) : bits .or .u64 (IntKind.u64.wrap (x * 256)) (IntKind.u64.wrap b) = x * 256 + b := by
  have w1 : IntKind.u64.wrap (x * 256) = x * 256 := by rw [IntKind.wrap_u64]; omega
  have w2 : IntKind.u64.wrap b = b := by rw [IntKind.wrap_u64]; omega
  rw [w1, w2, u64_or _ _ (by omega) (by omega) b0 (by omega)]
  have e := Nat.two_pow_add_eq_or_of_lt (i := 8) (b := b.toNat) (by omega) x.toNat
  have e1 : (x * 256).toNat = 2 ^ 8 * x.toNat := by omega
  rw [e1, ← e]
  omega
theorem add_byte {x b : Int} (x0 : 0 ≤ x) (x1 : x < 72057594037927936) (b0 : 0 ≤ b) (b1 : b ≤ 255) : IntKind.u64.wrap (IntKind.u64.wrap (x * 256) + IntKind.u64.wrap b) = x * 256 + b := by
  have w1 : IntKind.u64.wrap (x * 256) = x * 256 := by rw [IntKind.wrap_u64]; omega
  have w2 : IntKind.u64.wrap b = b := by rw [IntKind.wrap_u64]; omega
  rw [w1, w2, IntKind.wrap_u64]; omega
/-- States of the two loops. -/
def ocS (o n : Nat) (cs : List AV) (k x i : Int) : AF × AH := (⟨89, [(0, .ptr 1 0), (4, .int .i64 k), (5, .int .u64 x), (6, .int .i64 i)]⟩, ⟨2, [(1, .cells 105 [.slice 0 o n none, .int .i64 0, .bool true]), (0, .opn 5 1 cs)]⟩)
def rfS (o n : Nat) (cs : List AV) (k x i : Int) : AF × AH := (⟨94, [(0, .ptr 1 0), (3, .int .i64 k), (4, .int .u64 x), (5, .int .i64 i)]⟩, ⟨2, [(1, .cells 108 [.slice 0 o n none, .int .i64 0]), (0, .opn 5 1 cs)]⟩)
noncomputable def XN0 : Cx := cxP Try.prog [] []
theorem XN0_ok : CxOk (cxP Try.prog [] []) := cxP_ok mixed PurOk.nil rfl
def hvPre (bz : Nat → Int) (o n k : Nat) (cs : List AV) (x : Int) : Prop := Byt cs bz ∧ o + n = cs.length ∧ k < n ∧ k ≤ 8 ∧ n ≤ 1000 ∧ x = hv bz o k k
def LOc (bz : Nat → Int) (o n k : Nat) (cs : List AV) (x : Int) : LTr := fun n0 fr σ s K => need (n0 = 2) ∧ need (Fits 2 [(0, 0), (1, 1)] fr σ (ocS o n cs (k : Int) 0 (k : Int)).1 (ocS o n cs (k : Int) 0 (k : Int)).2) ∧ need (hvPre bz o n k cs x) ∧ K (.exit 0) (ocS o n cs (k : Int) x 0).1 (ocS o n cs (k : Int) x 0).2 s
def LRf (bz : Nat → Int) (o n k : Nat) (cs : List AV) (x : Int) : LTr := fun n0 fr σ s K => need (n0 = 2) ∧ need (Fits 2 [(0, 0), (1, 1)] fr σ (rfS o n cs (k : Int) 0 (k : Int)).1 (rfS o n cs (k : Int) 0 (k : Int)).2) ∧ need (hvPre bz o n k cs x) ∧ K (.exit 0) (rfS o n cs (k : Int) x 0).1 (rfS o n cs (k : Int) x 0).2 s
def okOn : List Nat := [86, 87]
theorem okOn_ok : okFunsX Try.prog okOn = true := by kernel_rfl
noncomputable def XOn (bz : Nat → Int) (o n k : Nat) (cs : List AV) (x : Int) : Cx := ⟨Try.prog, inl Try.prog (purO []) [] 20 (purT []) okOn 6, purO [], [], 20, lookL [(0, LOc bz o n k cs x)]⟩
theorem XOn_ok (bz : Nat → Int) (o n k : Nat) (cs : List AV) (x : Int) : CxOk (XOn bz o n k cs x) := ⟨inl_ok (purO_ok PurOk.nil) mixed (purT_ok PurOk.nil) okOn_ok 6, purO_ok PurOk.nil, mixed⟩
noncomputable def XRn1 (bz : Nat → Int) (o n k : Nat) (cs : List AV) (x : Int) : Cx := ⟨Try.prog, purT [], purO [], [], 20, lookL [(0, LRf bz o n k cs x)]⟩
theorem XRn1_ok (bz : Nat → Int) (o n k : Nat) (cs : List AV) (x : Int) : CxOk (XRn1 bz o n k cs x) := ⟨purT_ok PurOk.nil, purO_ok PurOk.nil, mixed⟩
end Go.Proofs.Ytnfelncgeihihaa.V
namespace Go.Proofs.Ytnfelncgeihihaa.V
open Go Go.Proofs
set_option maxRecDepth 100000
set_option linter.unusedVariables false
def ocR_VC (o n : Nat) (k x i : Int) (cs : List AV) (N : NS) (Q : QS) (K : Unit) : Prop :=
  ((decide (i ≥ (1 : Int))) = true →
    (decide ((0 : Int) ≤ i ∧ i < (↑n : Int))) = true ∧
    ((decide (o + Int.toNat i * (1 : Nat) < List.length cs)) = true ∧
    ((AV.isI IntKind.u8 (List.getD cs (o + Int.toNat i * (1 : Nat)) (AV.tup []))) = true ∧
    (N (89 : Nat)
  [some (AV.ptr (1 : Nat) (0 : Nat)), some (AV.int IntKind.i64 k),
    some
      (AV.int IntKind.u64
        (bits BinOp.or IntKind.u64 (IntKind.wrap IntKind.u64 (x * (256 : Int)))
          (IntKind.wrap IntKind.u64 (AV.toI (List.getD cs (o + Int.toNat i * (1 : Nat)) (AV.tup [])))))),
    some (AV.int IntKind.i64 (IntKind.wrap IntKind.i64 (i - (1 : Int))))]
  { nx := (2 : Nat),
    m :=
      [((1 : Nat), AObj.cells (105 : Nat) [AV.slice (0 : Nat) o n none, AV.int IntKind.i64 (0 : Int), AV.bool true]),
        ((0 : Nat), AObj.opn (5 : Nat) (1 : Nat) cs)] })))) ∧
  ((decide (i ≥ (1 : Int))) = false →
    Q (Exit.exit (0 : Nat)) (89 : Nat)
  [some (AV.ptr (1 : Nat) (0 : Nat)), some (AV.int IntKind.i64 k), some (AV.int IntKind.u64 x),
    some (AV.int IntKind.i64 i)]
  { nx := (2 : Nat),
    m :=
      [((1 : Nat), AObj.cells (105 : Nat) [AV.slice (0 : Nat) o n none, AV.int IntKind.i64 (0 : Int), AV.bool true]),
        ((0 : Nat), AObj.opn (5 : Nat) (1 : Nat) cs)] })
def ocR_scr : Plan := .b (.t (.t (.t (.z)))) (.z)
theorem ocR_vc (o n : Nat) (k x i : Int) (cs : List AV) (N : NS) (Q : QS) (K : Unit) : (wpP XN0 (symC Try.prog (bodyOf Try.prog 85) []) 2 (loopAt Try.prog 85 0) 0 (rndS [0, 4, 5, 6] N Q) (ocS o n cs k x i).1 (ocS o n cs k x i).2 ocR_scr) = ocR_VC o n k x i cs N Q K := by kernel_rfl
def rfR_VC (o n : Nat) (k x i : Int) (cs : List AV) (N : NS) (Q : QS) (K : Unit) : Prop :=
  ((decide (i ≥ (1 : Int))) = true →
    (decide ((0 : Int) ≤ i ∧ i < (↑n : Int))) = true ∧
    ((decide (o + Int.toNat i * (1 : Nat) < List.length cs)) = true ∧
    ((AV.isI IntKind.u8 (List.getD cs (o + Int.toNat i * (1 : Nat)) (AV.tup []))) = true ∧
    (N (94 : Nat)
  [some (AV.ptr (1 : Nat) (0 : Nat)), some (AV.int IntKind.i64 k),
    some
      (AV.int IntKind.u64
        (IntKind.wrap IntKind.u64
          (IntKind.wrap IntKind.u64 (x * (256 : Int)) +
            IntKind.wrap IntKind.u64 (AV.toI (List.getD cs (o + Int.toNat i * (1 : Nat)) (AV.tup [])))))),
    some (AV.int IntKind.i64 (IntKind.wrap IntKind.i64 (i - (1 : Int))))]
  { nx := (2 : Nat),
    m :=
      [((1 : Nat), AObj.cells (108 : Nat) [AV.slice (0 : Nat) o n none, AV.int IntKind.i64 (0 : Int)]),
        ((0 : Nat), AObj.opn (5 : Nat) (1 : Nat) cs)] })))) ∧
  ((decide (i ≥ (1 : Int))) = false →
    Q (Exit.exit (0 : Nat)) (94 : Nat)
  [some (AV.ptr (1 : Nat) (0 : Nat)), some (AV.int IntKind.i64 k), some (AV.int IntKind.u64 x),
    some (AV.int IntKind.i64 i)]
  { nx := (2 : Nat),
    m :=
      [((1 : Nat), AObj.cells (108 : Nat) [AV.slice (0 : Nat) o n none, AV.int IntKind.i64 (0 : Int)]),
        ((0 : Nat), AObj.opn (5 : Nat) (1 : Nat) cs)] })
def rfR_scr : Plan := .b (.t (.t (.t (.z)))) (.z)
theorem rfR_vc (o n : Nat) (k x i : Int) (cs : List AV) (N : NS) (Q : QS) (K : Unit) : (wpP XN0 (symC Try.prog (bodyOf Try.prog 81) []) 2 (loopAt Try.prog 81 0) 0 (rndS [0, 3, 4, 5] N Q) (rfS o n cs k x i).1 (rfS o n cs k x i).2 rfR_scr) = rfR_VC o n k x i cs N Q K := by kernel_rfl
def ocN_VC (bz : Nat → Int) (o n k : Nat) (e x : Int) (cs : List AV) (K : AV → AH → Prop) : Prop :=
  ((!decide (e = (0 : Int))) = true →
    K (AV.int IntKind.u64 (0 : Int))
  { nx := (2 : Nat),
    m :=
      [((1 : Nat), AObj.cells (105 : Nat) [AV.slice (0 : Nat) o n none, AV.int IntKind.i64 e, AV.bool true]),
        ((0 : Nat), AObj.opn (5 : Nat) (1 : Nat) cs)] }) ∧
  ((!decide (e = (0 : Int))) = false →
    ((decide ((↑n : Int) = (0 : Int))) = true →
      K (AV.int IntKind.u64 (0 : Int))
  { nx := (2 : Nat),
    m :=
      [((1 : Nat), AObj.cells (105 : Nat) [AV.slice (0 : Nat) o n none, AV.int IntKind.i64 (5 : Int), AV.bool true]),
        ((0 : Nat), AObj.opn (5 : Nat) (1 : Nat) cs)] }) ∧
    ((decide ((↑n : Int) = (0 : Int))) = false →
      (decide ((0 : Int) ≤ (0 : Int) ∧ (0 : Int) < (↑n : Int))) = true ∧
      ((decide (o + (0 : Nat) < List.length cs)) = true ∧
      ((AV.isI IntKind.u8 (List.getD cs (o + (0 : Nat)) (AV.tup []))) = true ∧
      (((decide (AV.toI (List.getD cs (o + (0 : Nat)) (AV.tup [])) ≤ (247 : Int))) = true →
        (decide ((0 : Nat) < n)) = true ∧
        ((decide ((0 : Int) ≤ (1 : Int) ∧ (1 : Int) ≤ (↑n : Int))) = true ∧
        ((decide (n ≤ n)) = true ∧
        (K (AV.int IntKind.u64 (IntKind.wrap IntKind.u64 (AV.toI (List.getD cs (o + (0 : Nat)) (AV.tup [])))))
  { nx := (2 : Nat),
    m :=
      [((1 : Nat),
          AObj.cells (105 : Nat)
            [AV.slice (0 : Nat) (o + (1 : Nat)) (n - (1 : Nat)) none, AV.int IntKind.i64 e, AV.bool true]),
        ((0 : Nat), AObj.opn (5 : Nat) (1 : Nat) cs)] })))) ∧
      ((decide (AV.toI (List.getD cs (o + (0 : Nat)) (AV.tup [])) ≤ (247 : Int))) = false →
        ((decide
  ((↑n : Int) <
    IntKind.wrap IntKind.i64
      ((1 : Int) +
        IntKind.wrap IntKind.i64
          (IntKind.wrap IntKind.i64 (AV.toI (List.getD cs (o + (0 : Nat)) (AV.tup []))) - (247 : Int))))) = true →
          K (AV.int IntKind.u64 (0 : Int))
  { nx := (2 : Nat),
    m :=
      [((1 : Nat), AObj.cells (105 : Nat) [AV.slice (0 : Nat) o n none, AV.int IntKind.i64 (5 : Int), AV.bool true]),
        ((0 : Nat), AObj.opn (5 : Nat) (1 : Nat) cs)] }) ∧
        ((decide
  ((↑n : Int) <
    IntKind.wrap IntKind.i64
      ((1 : Int) +
        IntKind.wrap IntKind.i64
          (IntKind.wrap IntKind.i64 (AV.toI (List.getD cs (o + (0 : Nat)) (AV.tup []))) - (247 : Int))))) = false →
          need ((2 : Nat) = (2 : Nat)) ∧
          (need (Fits (2 : Nat) [((0 : Nat), (0 : Nat)), ((1 : Nat), (1 : Nat))]
  { n := (89 : Nat),
    l :=
      [((6 : Nat),
          AV.int IntKind.i64
            (IntKind.wrap IntKind.i64
              (IntKind.wrap IntKind.i64 (AV.toI (List.getD cs (o + (0 : Nat)) (AV.tup []))) - (247 : Int)))),
        ((48 : Nat),
          AV.int IntKind.i64
            (IntKind.wrap IntKind.i64
              (IntKind.wrap IntKind.i64 (AV.toI (List.getD cs (o + (0 : Nat)) (AV.tup []))) - (247 : Int)))),
        ((5 : Nat), AV.int IntKind.u64 (0 : Int)),
        ((45 : Nat),
          AV.bool
            (decide
              ((↑n : Int) <
                IntKind.wrap IntKind.i64
                  ((1 : Int) +
                    IntKind.wrap IntKind.i64
                      (IntKind.wrap IntKind.i64 (AV.toI (List.getD cs (o + (0 : Nat)) (AV.tup []))) - (247 : Int)))))),
        ((44 : Nat),
          AV.int IntKind.i64
            (IntKind.wrap IntKind.i64
              ((1 : Int) +
                IntKind.wrap IntKind.i64
                  (IntKind.wrap IntKind.i64 (AV.toI (List.getD cs (o + (0 : Nat)) (AV.tup []))) - (247 : Int))))),
        ((43 : Nat),
          AV.int IntKind.i64
            (IntKind.wrap IntKind.i64
              (IntKind.wrap IntKind.i64 (AV.toI (List.getD cs (o + (0 : Nat)) (AV.tup []))) - (247 : Int)))),
        ((42 : Nat), AV.int IntKind.i64 (↑n : Int)), ((41 : Nat), AV.slice (0 : Nat) o n none),
        ((40 : Nat), AV.ptr (1 : Nat) (0 : Nat)), ((39 : Nat), AV.ptr (1 : Nat) (0 : Nat)),
        ((38 : Nat), AV.ptr (1 : Nat) (0 : Nat)),
        ((4 : Nat),
          AV.int IntKind.i64
            (IntKind.wrap IntKind.i64
              (IntKind.wrap IntKind.i64 (AV.toI (List.getD cs (o + (0 : Nat)) (AV.tup []))) - (247 : Int)))),
        ((37 : Nat),
          AV.int IntKind.i64
            (IntKind.wrap IntKind.i64
              (IntKind.wrap IntKind.i64 (AV.toI (List.getD cs (o + (0 : Nat)) (AV.tup []))) - (247 : Int)))),
        ((36 : Nat), AV.int IntKind.i64 (IntKind.wrap IntKind.i64 (AV.toI (List.getD cs (o + (0 : Nat)) (AV.tup []))))),
        ((35 : Nat), AV.int IntKind.u8 (AV.toI (List.getD cs (o + (0 : Nat)) (AV.tup [])))),
        ((24 : Nat), AV.bool (decide (AV.toI (List.getD cs (o + (0 : Nat)) (AV.tup [])) ≤ (247 : Int)))),
        ((23 : Nat), AV.int IntKind.u8 (AV.toI (List.getD cs (o + (0 : Nat)) (AV.tup [])))),
        ((3 : Nat), AV.int IntKind.u8 (AV.toI (List.getD cs (o + (0 : Nat)) (AV.tup [])))),
        ((22 : Nat), AV.int IntKind.u8 (AV.toI (List.getD cs (o + (0 : Nat)) (AV.tup [])))),
        ((21 : Nat), AV.ptr (0 : Nat) (o + (0 : Nat))), ((20 : Nat), AV.slice (0 : Nat) o n none),
        ((19 : Nat), AV.ptr (1 : Nat) (0 : Nat)), ((18 : Nat), AV.ptr (1 : Nat) (0 : Nat)),
        ((17 : Nat), AV.ptr (1 : Nat) (0 : Nat)), ((14 : Nat), AV.bool (decide ((↑n : Int) = (0 : Int)))),
        ((13 : Nat), AV.int IntKind.i64 (↑n : Int)), ((12 : Nat), AV.slice (0 : Nat) o n none),
        ((11 : Nat), AV.ptr (1 : Nat) (0 : Nat)), ((10 : Nat), AV.ptr (1 : Nat) (0 : Nat)),
        ((9 : Nat), AV.ptr (1 : Nat) (0 : Nat)), ((8 : Nat), AV.bool !decide (e = (0 : Int))),
        ((7 : Nat), AV.ptr (1 : Nat) (0 : Nat)), ((2 : Nat), AV.int IntKind.u64 (0 : Int)),
        ((0 : Nat), AV.ptr (1 : Nat) (0 : Nat))] }
  { nx := (2 : Nat),
    m :=
      [((1 : Nat), AObj.cells (105 : Nat) [AV.slice (0 : Nat) o n none, AV.int IntKind.i64 e, AV.bool true]),
        ((0 : Nat), AObj.opn (5 : Nat) (1 : Nat) cs)] }
  { n := (89 : Nat),
    l :=
      [((0 : Nat), AV.ptr (1 : Nat) (0 : Nat)), ((4 : Nat), AV.int IntKind.i64 (↑k : Int)),
        ((5 : Nat), AV.int IntKind.u64 (0 : Int)), ((6 : Nat), AV.int IntKind.i64 (↑k : Int))] }
  { nx := (2 : Nat),
    m :=
      [((1 : Nat), AObj.cells (105 : Nat) [AV.slice (0 : Nat) o n none, AV.int IntKind.i64 (0 : Int), AV.bool true]),
        ((0 : Nat), AObj.opn (5 : Nat) (1 : Nat) cs)] }) ∧
          (need (hvPre bz o n k cs x) ∧
          ((decide ((0 : Int) ≤ (↑k : Int) ∧ (↑k : Int) < (↑n : Int))) = true ∧
          ((decide (o + Int.toNat (↑k : Int) * (1 : Nat) < List.length cs)) = true ∧
          ((AV.isI IntKind.u8 (List.getD cs (o + Int.toNat (↑k : Int) * (1 : Nat)) (AV.tup []))) = true ∧
          (((!decide (AV.toI (List.getD cs (o + Int.toNat (↑k : Int) * (1 : Nat)) (AV.tup [])) = (0 : Int))) = true →
            (!decide (AV.toI (List.getD cs (o + Int.toNat (↑k : Int) * (1 : Nat)) (AV.tup [])) = (0 : Int))) = true ∧
            ((decide (AV.toI (List.getD cs (o + Int.toNat (↑k : Int) * (1 : Nat)) (AV.tup [])) = (0 : Int))) = false ∧
            (((decide (x ≤ (247 : Int))) = true →
              K (AV.int IntKind.u64 (0 : Int))
  { nx := (2 : Nat),
    m :=
      [((1 : Nat), AObj.cells (105 : Nat) [AV.slice (0 : Nat) o n none, AV.int IntKind.i64 (4 : Int), AV.bool true]),
        ((0 : Nat), AObj.opn (5 : Nat) (1 : Nat) cs)] }) ∧
            ((decide (x ≤ (247 : Int))) = false →
              (decide ((0 : Nat) < n)) = true ∧
              ((decide
  ((0 : Int) ≤ IntKind.wrap IntKind.i64 ((1 : Int) + (↑k : Int)) ∧
    IntKind.wrap IntKind.i64 ((1 : Int) + (↑k : Int)) ≤ (↑n : Int))) = true ∧
              ((decide (n ≤ n)) = true ∧
              (K (AV.int IntKind.u64 x)
  { nx := (2 : Nat),
    m :=
      [((1 : Nat),
          AObj.cells (105 : Nat)
            [AV.slice (0 : Nat) (o + Int.toNat (IntKind.wrap IntKind.i64 ((1 : Int) + (↑k : Int))) * (1 : Nat))
                (n - Int.toNat (IntKind.wrap IntKind.i64 ((1 : Int) + (↑k : Int)))) none,
              AV.int IntKind.i64 (0 : Int), AV.bool true]),
        ((0 : Nat), AObj.opn (5 : Nat) (1 : Nat) cs)] }))))))) ∧
          ((!decide (AV.toI (List.getD cs (o + Int.toNat (↑k : Int) * (1 : Nat)) (AV.tup [])) = (0 : Int))) = false →
            (!decide (AV.toI (List.getD cs (o + Int.toNat (↑k : Int) * (1 : Nat)) (AV.tup [])) = (0 : Int))) = false ∧
            ((decide (AV.toI (List.getD cs (o + Int.toNat (↑k : Int) * (1 : Nat)) (AV.tup [])) = (0 : Int))) = true ∧
            (K (AV.int IntKind.u64 (0 : Int))
  { nx := (2 : Nat),
    m :=
      [((1 : Nat), AObj.cells (105 : Nat) [AV.slice (0 : Nat) o n none, AV.int IntKind.i64 (4 : Int), AV.bool true]),
        ((0 : Nat), AObj.opn (5 : Nat) (1 : Nat) cs)] }))))))))))))))))
def ocN_scr : Plan := .k (.k (.k (.k (.k (.k (.k (.k (.k (.k (.k (.k (.b (.z) (.b (.z) (.t (.t (.t (.b (.t (.t (.t (.z)))) (.b (.z) (.t (.t (.t (.b (.t (.f (.b (.z) (.t (.t (.t (.z))))))) (.f (.t (.z)))))))))))))))))))))))))
theorem ocN_vc (bz : Nat → Int) (o n k : Nat) (e x : Int) (cs : List AV) (K : AV → AH → Prop) : (funP (XOn bz o n k cs x) 85 [.ptr 1 0] ⟨2, [(1, .cells 105 [.slice 0 o n none, .int .i64 e, .bool true]), (0, .opn 5 1 cs)]⟩ ocN_scr (fun v σ _ => K v σ)) = ocN_VC bz o n k e x cs K := by kernel_rfl
def rfN_VC (bz : Nat → Int) (o n k : Nat) (e x : Int) (cs : List AV) (K : AV → AH → Prop) : Prop :=
  ((!decide (e = (0 : Int))) = true →
    K (AV.int IntKind.u64 (0 : Int))
  { nx := (2 : Nat),
    m :=
      [((1 : Nat), AObj.cells (108 : Nat) [AV.slice (0 : Nat) o n none, AV.int IntKind.i64 e]),
        ((0 : Nat), AObj.opn (5 : Nat) (1 : Nat) cs)] }) ∧
  ((!decide (e = (0 : Int))) = false →
    ((decide ((↑n : Int) = (0 : Int))) = true →
      K (AV.int IntKind.u64 (0 : Int))
  { nx := (2 : Nat),
    m :=
      [((1 : Nat), AObj.cells (108 : Nat) [AV.slice (0 : Nat) o n none, AV.int IntKind.i64 (5 : Int)]),
        ((0 : Nat), AObj.opn (5 : Nat) (1 : Nat) cs)] }) ∧
    ((decide ((↑n : Int) = (0 : Int))) = false →
      (decide ((0 : Int) ≤ (0 : Int) ∧ (0 : Int) < (↑n : Int))) = true ∧
      ((decide (o + (0 : Nat) < List.length cs)) = true ∧
      ((AV.isI IntKind.u8 (List.getD cs (o + (0 : Nat)) (AV.tup []))) = true ∧
      (((decide (IntKind.wrap IntKind.i64 (AV.toI (List.getD cs (o + (0 : Nat)) (AV.tup []))) ≤ (247 : Int))) = true →
        (decide ((0 : Nat) < n)) = true ∧
        ((decide ((0 : Int) ≤ (1 : Int) ∧ (1 : Int) ≤ (↑n : Int))) = true ∧
        ((decide (n ≤ n)) = true ∧
        (K
  (AV.int IntKind.u64
    (IntKind.wrap IntKind.u64 (IntKind.wrap IntKind.i64 (AV.toI (List.getD cs (o + (0 : Nat)) (AV.tup []))))))
  { nx := (2 : Nat),
    m :=
      [((1 : Nat),
          AObj.cells (108 : Nat) [AV.slice (0 : Nat) (o + (1 : Nat)) (n - (1 : Nat)) none, AV.int IntKind.i64 e]),
        ((0 : Nat), AObj.opn (5 : Nat) (1 : Nat) cs)] })))) ∧
      ((decide (IntKind.wrap IntKind.i64 (AV.toI (List.getD cs (o + (0 : Nat)) (AV.tup []))) ≤ (247 : Int))) = false →
        ((decide
  ((↑n : Int) <
    IntKind.wrap IntKind.i64
      ((1 : Int) +
        IntKind.wrap IntKind.i64
          (IntKind.wrap IntKind.i64 (AV.toI (List.getD cs (o + (0 : Nat)) (AV.tup []))) - (247 : Int))))) = true →
          K (AV.int IntKind.u64 (0 : Int))
  { nx := (2 : Nat),
    m :=
      [((1 : Nat), AObj.cells (108 : Nat) [AV.slice (0 : Nat) o n none, AV.int IntKind.i64 (5 : Int)]),
        ((0 : Nat), AObj.opn (5 : Nat) (1 : Nat) cs)] }) ∧
        ((decide
  ((↑n : Int) <
    IntKind.wrap IntKind.i64
      ((1 : Int) +
        IntKind.wrap IntKind.i64
          (IntKind.wrap IntKind.i64 (AV.toI (List.getD cs (o + (0 : Nat)) (AV.tup []))) - (247 : Int))))) = false →
          need ((2 : Nat) = (2 : Nat)) ∧
          (need (Fits (2 : Nat) [((0 : Nat), (0 : Nat)), ((1 : Nat), (1 : Nat))]
  { n := (94 : Nat),
    l :=
      [((5 : Nat),
          AV.int IntKind.i64
            (IntKind.wrap IntKind.i64
              (IntKind.wrap IntKind.i64 (AV.toI (List.getD cs (o + (0 : Nat)) (AV.tup []))) - (247 : Int)))),
        ((52 : Nat),
          AV.int IntKind.i64
            (IntKind.wrap IntKind.i64
              (IntKind.wrap IntKind.i64 (AV.toI (List.getD cs (o + (0 : Nat)) (AV.tup []))) - (247 : Int)))),
        ((4 : Nat), AV.int IntKind.u64 (0 : Int)),
        ((48 : Nat),
          AV.bool
            (decide
              ((↑n : Int) <
                IntKind.wrap IntKind.i64
                  ((1 : Int) +
                    IntKind.wrap IntKind.i64
                      (IntKind.wrap IntKind.i64 (AV.toI (List.getD cs (o + (0 : Nat)) (AV.tup []))) - (247 : Int)))))),
        ((47 : Nat),
          AV.int IntKind.i64
            (IntKind.wrap IntKind.i64
              ((1 : Int) +
                IntKind.wrap IntKind.i64
                  (IntKind.wrap IntKind.i64 (AV.toI (List.getD cs (o + (0 : Nat)) (AV.tup []))) - (247 : Int))))),
        ((46 : Nat),
          AV.int IntKind.i64
            (IntKind.wrap IntKind.i64
              (IntKind.wrap IntKind.i64 (AV.toI (List.getD cs (o + (0 : Nat)) (AV.tup []))) - (247 : Int)))),
        ((45 : Nat), AV.int IntKind.i64 (↑n : Int)), ((44 : Nat), AV.slice (0 : Nat) o n none),
        ((43 : Nat), AV.ptr (1 : Nat) (0 : Nat)), ((42 : Nat), AV.ptr (1 : Nat) (0 : Nat)),
        ((41 : Nat), AV.ptr (1 : Nat) (0 : Nat)),
        ((3 : Nat),
          AV.int IntKind.i64
            (IntKind.wrap IntKind.i64
              (IntKind.wrap IntKind.i64 (AV.toI (List.getD cs (o + (0 : Nat)) (AV.tup []))) - (247 : Int)))),
        ((40 : Nat),
          AV.int IntKind.i64
            (IntKind.wrap IntKind.i64
              (IntKind.wrap IntKind.i64 (AV.toI (List.getD cs (o + (0 : Nat)) (AV.tup []))) - (247 : Int)))),
        ((39 : Nat), AV.int IntKind.i64 (IntKind.wrap IntKind.i64 (AV.toI (List.getD cs (o + (0 : Nat)) (AV.tup []))))),
        ((28 : Nat),
          AV.bool
            (decide (IntKind.wrap IntKind.i64 (AV.toI (List.getD cs (o + (0 : Nat)) (AV.tup []))) ≤ (247 : Int)))),
        ((27 : Nat), AV.int IntKind.i64 (IntKind.wrap IntKind.i64 (AV.toI (List.getD cs (o + (0 : Nat)) (AV.tup []))))),
        ((3 : Nat), AV.int IntKind.i64 (IntKind.wrap IntKind.i64 (AV.toI (List.getD cs (o + (0 : Nat)) (AV.tup []))))),
        ((26 : Nat), AV.int IntKind.i64 (IntKind.wrap IntKind.i64 (AV.toI (List.getD cs (o + (0 : Nat)) (AV.tup []))))),
        ((25 : Nat), AV.int IntKind.u8 (AV.toI (List.getD cs (o + (0 : Nat)) (AV.tup [])))),
        ((24 : Nat), AV.ptr (0 : Nat) (o + (0 : Nat))), ((23 : Nat), AV.slice (0 : Nat) o n none),
        ((22 : Nat), AV.ptr (1 : Nat) (0 : Nat)), ((21 : Nat), AV.ptr (1 : Nat) (0 : Nat)),
        ((20 : Nat), AV.ptr (1 : Nat) (0 : Nat)), ((16 : Nat), AV.bool (decide ((↑n : Int) = (0 : Int)))),
        ((15 : Nat), AV.int IntKind.i64 (↑n : Int)), ((14 : Nat), AV.slice (0 : Nat) o n none),
        ((13 : Nat), AV.ptr (1 : Nat) (0 : Nat)), ((12 : Nat), AV.ptr (1 : Nat) (0 : Nat)),
        ((11 : Nat), AV.ptr (1 : Nat) (0 : Nat)), ((10 : Nat), AV.bool !decide (e = (0 : Int))),
        ((9 : Nat), AV.int IntKind.i64 e), ((8 : Nat), AV.ptr (1 : Nat) (1 : Nat)),
        ((7 : Nat), AV.ptr (1 : Nat) (0 : Nat)), ((6 : Nat), AV.ptr (1 : Nat) (0 : Nat)),
        ((2 : Nat), AV.int IntKind.u64 (0 : Int)), ((0 : Nat), AV.ptr (1 : Nat) (0 : Nat))] }
  { nx := (2 : Nat),
    m :=
      [((1 : Nat), AObj.cells (108 : Nat) [AV.slice (0 : Nat) o n none, AV.int IntKind.i64 e]),
        ((0 : Nat), AObj.opn (5 : Nat) (1 : Nat) cs)] }
  { n := (94 : Nat),
    l :=
      [((0 : Nat), AV.ptr (1 : Nat) (0 : Nat)), ((3 : Nat), AV.int IntKind.i64 (↑k : Int)),
        ((4 : Nat), AV.int IntKind.u64 (0 : Int)), ((5 : Nat), AV.int IntKind.i64 (↑k : Int))] }
  { nx := (2 : Nat),
    m :=
      [((1 : Nat), AObj.cells (108 : Nat) [AV.slice (0 : Nat) o n none, AV.int IntKind.i64 (0 : Int)]),
        ((0 : Nat), AObj.opn (5 : Nat) (1 : Nat) cs)] }) ∧
          (need (hvPre bz o n k cs x) ∧
          ((decide ((0 : Int) ≤ (↑k : Int) ∧ (↑k : Int) < (↑n : Int))) = true ∧
          ((decide (o + Int.toNat (↑k : Int) * (1 : Nat) < List.length cs)) = true ∧
          ((AV.isI IntKind.u8 (List.getD cs (o + Int.toNat (↑k : Int) * (1 : Nat)) (AV.tup []))) = true ∧
          (((!decide (AV.toI (List.getD cs (o + Int.toNat (↑k : Int) * (1 : Nat)) (AV.tup [])) = (0 : Int))) = true →
            (!decide (AV.toI (List.getD cs (o + Int.toNat (↑k : Int) * (1 : Nat)) (AV.tup [])) = (0 : Int))) = true ∧
            ((decide (AV.toI (List.getD cs (o + Int.toNat (↑k : Int) * (1 : Nat)) (AV.tup [])) = (0 : Int))) = false ∧
            (((decide (x ≤ (247 : Int))) = true →
              K (AV.int IntKind.u64 (0 : Int))
  { nx := (2 : Nat),
    m :=
      [((1 : Nat), AObj.cells (108 : Nat) [AV.slice (0 : Nat) o n none, AV.int IntKind.i64 (4 : Int)]),
        ((0 : Nat), AObj.opn (5 : Nat) (1 : Nat) cs)] }) ∧
            ((decide (x ≤ (247 : Int))) = false →
              (decide ((0 : Nat) < n)) = true ∧
              ((decide
  ((0 : Int) ≤ IntKind.wrap IntKind.i64 ((1 : Int) + (↑k : Int)) ∧
    IntKind.wrap IntKind.i64 ((1 : Int) + (↑k : Int)) ≤ (↑n : Int))) = true ∧
              ((decide (n ≤ n)) = true ∧
              (K (AV.int IntKind.u64 x)
  { nx := (2 : Nat),
    m :=
      [((1 : Nat),
          AObj.cells (108 : Nat)
            [AV.slice (0 : Nat) (o + Int.toNat (IntKind.wrap IntKind.i64 ((1 : Int) + (↑k : Int))) * (1 : Nat))
                (n - Int.toNat (IntKind.wrap IntKind.i64 ((1 : Int) + (↑k : Int)))) none,
              AV.int IntKind.i64 (0 : Int)]),
        ((0 : Nat), AObj.opn (5 : Nat) (1 : Nat) cs)] }))))))) ∧
          ((!decide (AV.toI (List.getD cs (o + Int.toNat (↑k : Int) * (1 : Nat)) (AV.tup [])) = (0 : Int))) = false →
            (!decide (AV.toI (List.getD cs (o + Int.toNat (↑k : Int) * (1 : Nat)) (AV.tup [])) = (0 : Int))) = false ∧
            ((decide (AV.toI (List.getD cs (o + Int.toNat (↑k : Int) * (1 : Nat)) (AV.tup [])) = (0 : Int))) = true ∧
            (K (AV.int IntKind.u64 (0 : Int))
  { nx := (2 : Nat),
    m :=
      [((1 : Nat), AObj.cells (108 : Nat) [AV.slice (0 : Nat) o n none, AV.int IntKind.i64 (4 : Int)]),
        ((0 : Nat), AObj.opn (5 : Nat) (1 : Nat) cs)] }))))))))))))))))
def rfN_scr : Plan := .b (.z) (.b (.z) (.t (.t (.t (.b (.t (.t (.t (.z)))) (.b (.z) (.t (.t (.t (.b (.t (.f (.b (.z) (.t (.t (.t (.z))))))) (.f (.t (.z)))))))))))))
theorem rfN_vc (bz : Nat → Int) (o n k : Nat) (e x : Int) (cs : List AV) (K : AV → AH → Prop) : (funP (XRn1 bz o n k cs x) 81 [.ptr 1 0] ⟨2, [(1, .cells 108 [.slice 0 o n none, .int .i64 e]), (0, .opn 5 1 cs)]⟩ rfN_scr (fun v σ _ => K v σ)) = rfN_VC bz o n k e x cs K := by kernel_rfl
end Go.Proofs.Ytnfelncgeihihaa.V
namespace Go.Proofs.Ytnfelncgeihihaa.V
open Go Go.Proofs
set_option maxRecDepth 100000
set_option maxHeartbeats 4000000
set_option linter.unusedSimpArgs false
set_option linter.unusedVariables false
theorem oc_wl {bz : Nat → Int} {o n k : Nat} {cs : List AV} {x : Int} (h : hvPre bz o n k cs x) : WL Try.prog 2 (loopAt Try.prog 85 0) (fun e fr σ => e = .exit 0 ∧ fr = (ocS o n cs (k : Int) x 0).1 ∧ σ = (ocS o n cs (k : Int) x 0).2) (ocS o n cs (k : Int) 0 (k : Int)).1 (ocS o n cs (k : Int) 0 (k : Int)).2 := by
  obtain ⟨hb, hl, hk, h8, hn, rfl⟩ := h
  have fit : ∀ y i : Int, FitsS 2 [(0, 0), (1, 1)] [0, 4, 5, 6] 89 [some (.ptr 1 0), some (.int .i64 (k : Int)), some (.int .u64 y), some (.int .i64 i)] (ocS o n cs (k : Int) y i).2 (ocS o n cs (k : Int) y i).1 (ocS o n cs (k : Int) y i).2 := fun y i =>
    ⟨rfl, ⟨⟨rfl, rfl, .inr ⟨hb.1, rfl⟩⟩, ⟨rfl, .inl rfl⟩, trivial⟩, rfl, ⟨rfl, rfl, rfl, rfl, trivial⟩⟩
  have key := loop_fam (X := XN0) XN0_ok (n0 := 2) (b := 0) (c := loopAt Try.prog 85 0) (sy := symC Try.prog (bodyOf Try.prog 85) []) (by kernel_rfl) rfl [0, 4, 5, 6] (ι := {j : Nat // j ≤ k}) (fun j => ocS o n cs (k : Int) (hv bz o k j.1) ((k - j.1 : Nat) : Int)) (fun j => k - j.1) (fun e fr σ => e = .exit 0 ∧ fr = (ocS o n cs (k : Int) (hv bz o k k) 0).1 ∧ σ = (ocS o n cs (k : Int) (hv bz o k k) 0).2) (fun _ => ocR_scr)
    (fun j N Q => ocR_VC o n (k : Int) (hv bz o k j.1) ((k - j.1 : Nat) : Int) cs N Q ()) (fun j N Q => ocR_vc o n (k : Int) (hv bz o k j.1) ((k - j.1 : Nat) : Int) cs N Q ()) ?_ ⟨0, Nat.zero_le _⟩
  · exact key
  rintro ⟨j, hj⟩
  unfold ocR_VC
  refine ⟨fun hi => ?_, fun hi => ?_⟩
  · have hi : ((k - j : Nat) : Int) ≥ 1 := by simpa using hi
    obtain ⟨a, b⟩ := hv_bd hb (o := o) (k := k) (by omega) j hj
    have b7 := pow_le7 (j := j) (by omega)
    obtain ⟨g, c0, c1⟩ := hb.2 (o + (k - j)) (by omega)
    have e1 : o + Int.toNat ((k - j : Nat) : Int) * 1 = o + (k - j) := by simp
    show _ ∧ _ ∧ _ ∧ _
    rw [e1, g]
    refine ⟨by simp; omega, by simp; omega, rfl, ⟨j + 1, by omega⟩, [(0, 0), (1, 1)], (show k - (j + 1) < k - j by omega), ?_⟩
    have e2 : IntKind.i64.wrap (((k - j : Nat) : Int) - 1) = ((k - (j + 1) : Nat) : Int) := by rw [wrap_in (by omega) (by omega)]; omega
    rw [toI_i, or_byte a (by omega) c0 c1, e2]
    exact fit (hv bz o k (j + 1)) ((k - (j + 1) : Nat) : Int)
  · have hi : ¬ ((k - j : Nat) : Int) ≥ 1 := by simpa using hi
    have hj' : j = k := by omega
    subst hj'
    rw [show ((j - j : Nat) : Int) = 0 by simp]
    exact ⟨[(0, 0), (1, 1)], _, _, fit (hv bz o j j) 0, rfl, rfl, rfl⟩
theorem LOc_ok (bz : Nat → Int) (o n k : Nat) (cs : List AV) (x : Int) : LOk Try.prog (loopAt Try.prog 85 0) (LOc bz o n k cs x) := by
  rintro n0 fr σ s Q ⟨h0, hf, hp, hq⟩
  cases (h0 : n0 = 2)
  intro E a w hE hs
  refine (WL.less (oc_wl hp) ?_) E a w hE (Fits.refines hf E hE a w hs)
  rintro e fr σ ⟨rfl, rfl, rfl⟩
  exact ⟨_, _, fun E _ a w h => h, s, hq⟩
theorem oc_loops : loopsOf (bodyOf Try.prog 85) 0 = [(0, loopAt Try.prog 85 0)] := by kernel_rfl
theorem ocN_sc {bz : Nat → Int} {o n : Nat} {e : Int} {cs : List AV} (hb : Byt cs bz) (hl : o + n = cs.length) (hn : n ≤ 1000) : SC Try.prog 85 [.ptr 1 0] ⟨2, [(1, .cells 105 [.slice 0 o n none, .int .i64 e, .bool true]), (0, .opn 5 1 cs)]⟩
    (fun v τ => v = .int .u64 (nu bz ⟨o, n, e⟩).1 ∧ τ.get 0 = .opn 5 1 cs ∧ τ.get 1 = .cells 105 [.slice 0 (nu bz ⟨o, n, e⟩).2.o (nu bz ⟨o, n, e⟩).2.n none, .int .i64 (nu bz ⟨o, n, e⟩).2.e, .bool true]) := by
  generalize hk : (bz o - 247).toNat = k
  refine sc_of_vcT (XOn_ok bz o n k cs (hv bz o k k)) (by kernel_rfl) ?_ (ocN_vc bz o n k e (hv bz o k k) cs _) ?_
  · intro p hp' l hl
    rw [show (XOn bz o n k cs (hv bz o k k)).P = Try.prog from rfl, oc_loops] at hp'
    simp only [List.mem_cons, List.not_mem_nil, or_false] at hp'
    subst hp'
    have : l = LOc bz o n k cs (hv bz o k k) := (Option.some.inj hl).symm
    subst this
    exact LOc_ok _ _ _ _ _ _
  unfold ocN_VC nu
  rw [hk]
  by_cases he : e = 0
  case neg =>
    refine ⟨fun _ => ?_, fun h => by simp [he] at h⟩
    simp [he, AH.get, lookH]
  subst he
  refine ⟨fun h => by simp at h, fun _ => ⟨fun h => ?_, fun h => ?_⟩⟩
  · have h : n = 0 := by simpa using h
    subst h
    simp [AH.get, lookH]
  have n0 : ¬ n = 0 := by simpa using h
  obtain ⟨g0, c0, c1⟩ := hb.2 (o + 0) (by omega)
  rw [g0]
  rw [Nat.add_zero] at c0 c1 ⊢
  repeat rw [toI_i]
  have wc : IntKind.i64.wrap (bz o) = bz o := wrap_in (by omega) (by omega)
  have wu : IntKind.u64.wrap (bz o) = bz o := by rw [IntKind.wrap_u64]; omega
  refine ⟨by simp; omega, by simp; omega, rfl, fun h => ?_, fun h => ?_⟩
  · have h : bz o ≤ 247 := by simpa using h
    refine ⟨by simp; omega, by simp; omega, by simp, ?_⟩
    simp [n0, h, wc, wu, AH.get, lookH]
  have h : ¬ bz o ≤ 247 := by simpa using h
  have wk : IntKind.i64.wrap (IntKind.i64.wrap (bz o) - 247) = (k : Int) := by rw [wc, wrap_in (by omega) (by omega)]; omega
  have wk1 : IntKind.i64.wrap (1 + (k : Int)) = 1 + (k : Int) := wrap_in (by omega) (by omega)
  rw [wk, wk1]
  refine ⟨fun q => ?_, fun q => ?_⟩
  · have q : n < 1 + k := by simp at q; omega
    simp [n0, h, q, AH.get, lookH]
  have q : ¬ n < 1 + k := by simp at q; omega
  obtain ⟨g1, d0, d1⟩ := hb.2 (o + k) (by omega)
  have e1 : o + Int.toNat (k : Int) * 1 = o + k := by simp
  rw [e1, g1]
  repeat rw [toI_i]
  refine ⟨rfl, ⟨rfl, ⟨⟨rfl, rfl, .inr ⟨hb.1, rfl⟩⟩, ⟨rfl, .inl rfl⟩, trivial⟩, rfl, ⟨rfl, rfl, rfl, rfl, trivial⟩⟩, ⟨hb, hl, by omega, by omega, hn, rfl⟩, by simp; omega, by simp; omega, rfl, fun z => ?_, fun z => ?_⟩
  · have z : ¬ bz (o + k) = 0 := by simpa using z
    refine ⟨by simp [z], by simp [z], fun y => ?_, fun y => ?_⟩
    · have y : hv bz o k k ≤ 247 := by simpa using y
      simp [n0, h, q, z, y, AH.get, lookH]
    · have y : ¬ hv bz o k k ≤ 247 := by simpa using y
      refine ⟨by simp; omega, by simp; omega, by simp, ?_⟩
      have e2 : Int.toNat (1 + (k : Int)) = 1 + k := by omega
      rw [e2, Nat.mul_one]
      simp [n0, h, q, z, y, AH.get, lookH]
  · have z : bz (o + k) = 0 := by simpa using z
    refine ⟨by simp [z], by simp [z], ?_⟩
    simp [n0, h, q, z, AH.get, lookH]

theorem rf_wl {bz : Nat → Int} {o n k : Nat} {cs : List AV} {x : Int} (h : hvPre bz o n k cs x) : WL Try.prog 2 (loopAt Try.prog 81 0) (fun e fr σ => e = .exit 0 ∧ fr = (rfS o n cs (k : Int) x 0).1 ∧ σ = (rfS o n cs (k : Int) x 0).2) (rfS o n cs (k : Int) 0 (k : Int)).1 (rfS o n cs (k : Int) 0 (k : Int)).2 := by
  obtain ⟨hb, hl, hk, h8, hn, rfl⟩ := h
  have fit : ∀ y i : Int, FitsS 2 [(0, 0), (1, 1)] [0, 3, 4, 5] 94 [some (.ptr 1 0), some (.int .i64 (k : Int)), some (.int .u64 y), some (.int .i64 i)] (rfS o n cs (k : Int) y i).2 (rfS o n cs (k : Int) y i).1 (rfS o n cs (k : Int) y i).2 := fun y i =>
    ⟨rfl, ⟨⟨rfl, rfl, .inr ⟨hb.1, rfl⟩⟩, ⟨rfl, .inl rfl⟩, trivial⟩, rfl, ⟨rfl, rfl, rfl, rfl, trivial⟩⟩
  have key := loop_fam (X := XN0) XN0_ok (n0 := 2) (b := 0) (c := loopAt Try.prog 81 0) (sy := symC Try.prog (bodyOf Try.prog 81) []) (by kernel_rfl) rfl [0, 3, 4, 5] (ι := {j : Nat // j ≤ k}) (fun j => rfS o n cs (k : Int) (hv bz o k j.1) ((k - j.1 : Nat) : Int)) (fun j => k - j.1) (fun e fr σ => e = .exit 0 ∧ fr = (rfS o n cs (k : Int) (hv bz o k k) 0).1 ∧ σ = (rfS o n cs (k : Int) (hv bz o k k) 0).2) (fun _ => rfR_scr)
    (fun j N Q => rfR_VC o n (k : Int) (hv bz o k j.1) ((k - j.1 : Nat) : Int) cs N Q ()) (fun j N Q => rfR_vc o n (k : Int) (hv bz o k j.1) ((k - j.1 : Nat) : Int) cs N Q ()) ?_ ⟨0, Nat.zero_le _⟩
  · exact key
  rintro ⟨j, hj⟩
  unfold rfR_VC
  refine ⟨fun hi => ?_, fun hi => ?_⟩
  · have hi : ((k - j : Nat) : Int) ≥ 1 := by simpa using hi
    obtain ⟨a, b⟩ := hv_bd hb (o := o) (k := k) (by omega) j hj
    have b7 := pow_le7 (j := j) (by omega)
    obtain ⟨g, c0, c1⟩ := hb.2 (o + (k - j)) (by omega)
    have e1 : o + Int.toNat ((k - j : Nat) : Int) * 1 = o + (k - j) := by simp
    show _ ∧ _ ∧ _ ∧ _
    rw [e1, g]
    refine ⟨by simp; omega, by simp; omega, rfl, ⟨j + 1, by omega⟩, [(0, 0), (1, 1)], (show k - (j + 1) < k - j by omega), ?_⟩
    have e2 : IntKind.i64.wrap (((k - j : Nat) : Int) - 1) = ((k - (j + 1) : Nat) : Int) := by rw [wrap_in (by omega) (by omega)]; omega
    rw [toI_i, add_byte a (by omega) c0 c1, e2]
    exact fit (hv bz o k (j + 1)) ((k - (j + 1) : Nat) : Int)
  · have hi : ¬ ((k - j : Nat) : Int) ≥ 1 := by simpa using hi
    have hj' : j = k := by omega
    subst hj'
    rw [show ((j - j : Nat) : Int) = 0 by simp]
    exact ⟨[(0, 0), (1, 1)], _, _, fit (hv bz o j j) 0, rfl, rfl, rfl⟩
theorem LRf_ok (bz : Nat → Int) (o n k : Nat) (cs : List AV) (x : Int) : LOk Try.prog (loopAt Try.prog 81 0) (LRf bz o n k cs x) := by
  rintro n0 fr σ s Q ⟨h0, hf, hp, hq⟩
  cases (h0 : n0 = 2)
  intro E a w hE hs
  refine (WL.less (rf_wl hp) ?_) E a w hE (Fits.refines hf E hE a w hs)
  rintro e fr σ ⟨rfl, rfl, rfl⟩
  exact ⟨_, _, fun E _ a w h => h, s, hq⟩
theorem rf_loops : loopsOf (bodyOf Try.prog 81) 0 = [(0, loopAt Try.prog 81 0)] := by kernel_rfl
theorem rfN_sc {bz : Nat → Int} {o n : Nat} {e : Int} {cs : List AV} (hb : Byt cs bz) (hl : o + n = cs.length) (hn : n ≤ 1000) : SC Try.prog 81 [.ptr 1 0] ⟨2, [(1, .cells 108 [.slice 0 o n none, .int .i64 e]), (0, .opn 5 1 cs)]⟩
    (fun v τ => v = .int .u64 (nu bz ⟨o, n, e⟩).1 ∧ τ.get 0 = .opn 5 1 cs ∧ τ.get 1 = .cells 108 [.slice 0 (nu bz ⟨o, n, e⟩).2.o (nu bz ⟨o, n, e⟩).2.n none, .int .i64 (nu bz ⟨o, n, e⟩).2.e]) := by
  generalize hk : (bz o - 247).toNat = k
  refine sc_of_vcT (XRn1_ok bz o n k cs (hv bz o k k)) (by kernel_rfl) ?_ (rfN_vc bz o n k e (hv bz o k k) cs _) ?_
  · intro p hp' l hl
    rw [show (XRn1 bz o n k cs (hv bz o k k)).P = Try.prog from rfl, rf_loops] at hp'
    simp only [List.mem_cons, List.not_mem_nil, or_false] at hp'
    subst hp'
    have : l = LRf bz o n k cs (hv bz o k k) := (Option.some.inj hl).symm
    subst this
    exact LRf_ok _ _ _ _ _ _
  unfold rfN_VC nu
  rw [hk]
  by_cases he : e = 0
  case neg =>
    refine ⟨fun _ => ?_, fun h => by simp [he] at h⟩
    simp [he, AH.get, lookH]
  subst he
  refine ⟨fun h => by simp at h, fun _ => ⟨fun h => ?_, fun h => ?_⟩⟩
  · have h : n = 0 := by simpa using h
    subst h
    simp [AH.get, lookH]
  have n0 : ¬ n = 0 := by simpa using h
  obtain ⟨g0, c0, c1⟩ := hb.2 (o + 0) (by omega)
  rw [g0]
  rw [Nat.add_zero] at c0 c1 ⊢
  repeat rw [toI_i]
  have wc : IntKind.i64.wrap (bz o) = bz o := wrap_in (by omega) (by omega)
  have wu : IntKind.u64.wrap (bz o) = bz o := by rw [IntKind.wrap_u64]; omega
  refine ⟨by simp; omega, by simp; omega, rfl, fun h => ?_, fun h => ?_⟩
  · have h : bz o ≤ 247 := by rw [wc] at h; simpa using h
    refine ⟨by simp; omega, by simp; omega, by simp, ?_⟩
    simp [n0, h, wc, wu, AH.get, lookH]
  have h : ¬ bz o ≤ 247 := by rw [wc] at h; simpa using h
  have wk : IntKind.i64.wrap (IntKind.i64.wrap (bz o) - 247) = (k : Int) := by rw [wc, wrap_in (by omega) (by omega)]; omega
  have wk1 : IntKind.i64.wrap (1 + (k : Int)) = 1 + (k : Int) := wrap_in (by omega) (by omega)
  rw [wk, wk1]
  refine ⟨fun q => ?_, fun q => ?_⟩
  · have q : n < 1 + k := by simp at q; omega
    simp [n0, h, q, AH.get, lookH]
  have q : ¬ n < 1 + k := by simp at q; omega
  obtain ⟨g1, d0, d1⟩ := hb.2 (o + k) (by omega)
  have e1 : o + Int.toNat (k : Int) * 1 = o + k := by simp
  rw [e1, g1]
  repeat rw [toI_i]
  refine ⟨rfl, ⟨rfl, ⟨⟨rfl, rfl, .inr ⟨hb.1, rfl⟩⟩, ⟨rfl, .inl rfl⟩, trivial⟩, rfl, ⟨rfl, rfl, rfl, rfl, trivial⟩⟩, ⟨hb, hl, by omega, by omega, hn, rfl⟩, by simp; omega, by simp; omega, rfl, fun z => ?_, fun z => ?_⟩
  · have z : ¬ bz (o + k) = 0 := by simpa using z
    refine ⟨by simp [z], by simp [z], fun y => ?_, fun y => ?_⟩
    · have y : hv bz o k k ≤ 247 := by simpa using y
      simp [n0, h, q, z, y, AH.get, lookH]
    · have y : ¬ hv bz o k k ≤ 247 := by simpa using y
      refine ⟨by simp; omega, by simp; omega, by simp, ?_⟩
      have e2 : Int.toNat (1 + (k : Int)) = 1 + k := by omega
      rw [e2, Nat.mul_one]
      simp [n0, h, q, z, y, AH.get, lookH]
  · have z : bz (o + k) = 0 := by simpa using z
    refine ⟨by simp [z], by simp [z], ?_⟩
    simp [n0, h, q, z, AH.get, lookH]
end Go.Proofs.Ytnfelncgeihihaa.V
namespace Go.Proofs.Ytnfelncgeihihaa.V
open Go Go.Proofs
set_option maxRecDepth 100000
set_option linter.unusedSimpArgs false
set_option linter.unusedVariables false
/-- What is asked ahead of a number's reading, and what comes of it. -/
def nuOk (bz : Nat → Int) (cs : List AV) (o n : Nat) (e v : Int) (o' n' : Nat) (e' : Int) : Prop := Byt cs bz ∧ o + n = cs.length ∧ n ≤ 1000 ∧ nu bz ⟨o, n, e⟩ = (v, ⟨o', n', e'⟩)
def cuOk (bz : Nat → Int) (cs : List AV) (o n : Nat) (e v : Int) (o' n' : Nat) (e' : Int) : Prop := Byt cs bz ∧ o + n = cs.length ∧ n ≤ 1000 ∧ cu bz ⟨o, n, e⟩ = (v, ⟨o', n', e'⟩)
def ocTr (bz : Nat → Int) (o n : Nat) (e v : Int) (o' n' : Nat) (e' : Int) (cs : List AV) : Tr1 := fun xs σ s K =>
  need (xs = [.ptr 1 0]) ∧ need (σ.get 1 = .cells 105 [.slice 0 o n none, .int .i64 e, .bool true]) ∧ need (σ.get 0 = .opn 5 1 cs) ∧ need (nuOk bz cs o n e v o' n' e') ∧
    K (.int .u64 v) (σ.set 1 (.cells 105 [.slice 0 o' n' none, .int .i64 e', .bool true])) s
theorem ocTr_ok (bz : Nat → Int) (o n : Nat) (e v : Int) (o' n' : Nat) (e' : Int) (cs : List AV) : TrOk Try.prog 85 (ocTr bz o n e v o' n' e' cs) := by
  intro xs σ s K h
  obtain ⟨hx, hR, hB, ⟨hb, hl, hn, hq⟩, hk⟩ := h
  have hx : xs = [.ptr 1 0] := hx
  subst hx
  have key := ocN_sc (e := e) hb hl hn
  rw [hq] at key
  refine (SC.frameS (b := 0) (R := 1) (c0 := [.slice 0 o n none, .int .i64 e, .bool true]) (c2 := [.slice 0 o' n' none, .int .i64 e', .bool true]) (args0 := [.ptr 1 0]) hB hR (by omega) hb.1 rfl rfl rfl rfl key).mono ?_
  rintro v τ ⟨rfl, rfl⟩
  exact ⟨s, hk⟩
def rfTr (bz : Nat → Int) (o n : Nat) (e v : Int) (o' n' : Nat) (e' : Int) (cs : List AV) : Tr1 := fun xs σ s K =>
  need (xs = [.ptr 4 0]) ∧ need (σ.get 4 = .cells 108 [.slice 3 o n none, .int .i64 e]) ∧ need (σ.get 3 = .opn 5 1 cs) ∧ need (nuOk bz cs o n e v o' n' e') ∧
    K (.int .u64 v) (σ.set 4 (.cells 108 [.slice 3 o' n' none, .int .i64 e'])) s
theorem rfTr_ok (bz : Nat → Int) (o n : Nat) (e v : Int) (o' n' : Nat) (e' : Int) (cs : List AV) : TrOk Try.prog 81 (rfTr bz o n e v o' n' e' cs) := by
  intro xs σ s K h
  obtain ⟨hx, hR, hB, ⟨hb, hl, hn, hq⟩, hk⟩ := h
  have hx : xs = [.ptr 4 0] := hx
  subst hx
  have key := rfN_sc (e := e) hb hl hn
  rw [hq] at key
  refine (SC.frameS (b := 3) (R := 4) (c0 := [.slice 0 o n none, .int .i64 e]) (c2 := [.slice 0 o' n' none, .int .i64 e']) (args0 := [.ptr 1 0]) hB hR (by omega) hb.1 rfl rfl rfl rfl key).mono ?_
  rintro v τ ⟨rfl, rfl⟩
  exact ⟨s, hk⟩
def okCn : List Nat := [86, 87]
theorem okCn_ok : okFunsX Try.prog okCn = true := by kernel_rfl
noncomputable def XCn (bz : Nat → Int) (o n : Nat) (e v : Int) (o' n' : Nat) (e' : Int) (cs : List AV) : Cx := ⟨Try.prog, inl Try.prog (purO []) [] 20 (withT 85 (ocTr bz o n e v o' n' e' cs) (purT [])) okCn 6, purO [], [], 20, lookL []⟩
theorem XCn_ok (bz : Nat → Int) (o n : Nat) (e v : Int) (o' n' : Nat) (e' : Int) (cs : List AV) : CxOk (XCn bz o n e v o' n' e' cs) := ⟨inl_ok (purO_ok PurOk.nil) mixed (withT_ok (ocTr_ok bz o n e v o' n' e' cs) (purT_ok PurOk.nil)) okCn_ok 6, purO_ok PurOk.nil, mixed⟩
noncomputable def XRr (bz : Nat → Int) (o n : Nat) (e v : Int) (o' n' : Nat) (e' : Int) (cs : List AV) : Cx := ⟨Try.prog, withT 81 (rfTr bz o n e v o' n' e' cs) (purT []), purO [], [], 20, lookL []⟩
theorem XRr_ok (bz : Nat → Int) (o n : Nat) (e v : Int) (o' n' : Nat) (e' : Int) (cs : List AV) : CxOk (XRr bz o n e v o' n' e' cs) := ⟨withT_ok (rfTr_ok bz o n e v o' n' e' cs) (purT_ok PurOk.nil), purO_ok PurOk.nil, mixed⟩
def mi (v : Int) : Int := if 1000 < v then 1000 else v
/-- States of the loops that read a screen: the program's, the document's. -/
def ptS (x : Nat → Int) (o n : Nat) (e : Int) (cs : List AV) (i : Nat) : AF × AH :=
  (⟨38, [(2, .ptr 1 0), (4, .ptr 3 0), (5, .ptr 4 0), (17, .slice 5 0 7 (some 7)), (18, .int .i64 7), (19, .int .i64 (i : Nat))]⟩,
   ⟨6, [(5, .cells 95 [.ptr 4 0, .ptr 4 1, .ptr 4 2, .ptr 4 3, .ptr 4 4, .ptr 4 5, .ptr 4 6]), (4, .cells 23 (sC x i)), (3, .cells 105 [.slice 2 o n none, .int .i64 e, .bool true]), (2, .opn 5 1 cs), (1, .cells 23 (sC x 0)), (0, .ro cs)]⟩)
def rtS (x : Nat → Int) (o n : Nat) (e : Int) (cs : List AV) (i : Nat) : AF × AH :=
  (⟨45, [(2, .ptr 1 0), (4, .ptr 4 0), (5, .ptr 5 0), (6, .int .i64 (i : Nat))]⟩,
   ⟨6, [(5, .cells 90 (sC x i)), (4, .cells 108 [.slice 3 o n none, .int .i64 e]), (3, .opn 5 1 cs), (1, .cells 23 (sC x 0)), (0, .ro cs)]⟩)
end Go.Proofs.Ytnfelncgeihihaa.V
namespace Go.Proofs.Ytnfelncgeihihaa.V
open Go Go.Proofs
set_option maxRecDepth 100000
set_option linter.unusedVariables false
def cnE_VC (bz : Nat → Int) (o n : Nat) (e v : Int) (o' n' : Nat) (e' : Int) (cs : List AV) (K : AV → AH → Prop) : Prop :=
  need ([AV.ptr (1 : Nat) (0 : Nat)] = [AV.ptr (1 : Nat) (0 : Nat)]) ∧
  (need (AH.get
    { nx := (2 : Nat),
      m :=
        [((1 : Nat), AObj.cells (105 : Nat) [AV.slice (0 : Nat) o n none, AV.int IntKind.i64 e, AV.bool true]),
          ((0 : Nat), AObj.opn (5 : Nat) (1 : Nat) cs)] }
    (1 : Nat) =
  AObj.cells (105 : Nat) [AV.slice (0 : Nat) o n none, AV.int IntKind.i64 e, AV.bool true]) ∧
  (need (AH.get
    { nx := (2 : Nat),
      m :=
        [((1 : Nat), AObj.cells (105 : Nat) [AV.slice (0 : Nat) o n none, AV.int IntKind.i64 e, AV.bool true]),
          ((0 : Nat), AObj.opn (5 : Nat) (1 : Nat) cs)] }
    (0 : Nat) =
  AObj.opn (5 : Nat) (1 : Nat) cs) ∧
  (need (nuOk bz cs o n e v o' n' e') ∧
  (((!decide (e' = (0 : Int))) = true →
    K (AV.int IntKind.i64 (0 : Int))
  { nx := (2 : Nat),
    m :=
      [((1 : Nat), AObj.cells (105 : Nat) [AV.slice (0 : Nat) o' n' none, AV.int IntKind.i64 e', AV.bool true]),
        ((0 : Nat), AObj.opn (5 : Nat) (1 : Nat) cs)] }) ∧
  ((!decide (e' = (0 : Int))) = false →
    ((decide (v > (1000 : Int))) = true →
      K (AV.int IntKind.i64 (0 : Int))
  { nx := (2 : Nat),
    m :=
      [((1 : Nat), AObj.cells (105 : Nat) [AV.slice (0 : Nat) o' n' none, AV.int IntKind.i64 (3 : Int), AV.bool true]),
        ((0 : Nat), AObj.opn (5 : Nat) (1 : Nat) cs)] }) ∧
    ((decide (v > (1000 : Int))) = false →
      K (AV.int IntKind.i64 (IntKind.wrap IntKind.i64 v))
  { nx := (2 : Nat),
    m :=
      [((1 : Nat), AObj.cells (105 : Nat) [AV.slice (0 : Nat) o' n' none, AV.int IntKind.i64 e', AV.bool true]),
        ((0 : Nat), AObj.opn (5 : Nat) (1 : Nat) cs)] }))))))
def cnE_scr : Plan := .k (.k (.k (.k (.k (.k (.k (.k (.k (.k (.k (.k (.b (.z) (.b (.z) (.z))))))))))))))
theorem cnE_vc (bz : Nat → Int) (o n : Nat) (e v : Int) (o' n' : Nat) (e' : Int) (cs : List AV) (K : AV → AH → Prop) : (funP (XCn bz o n e v o' n' e' cs) 77 [.ptr 1 0, .int .i64 1000] ⟨2, [(1, .cells 105 [.slice 0 o n none, .int .i64 e, .bool true]), (0, .opn 5 1 cs)]⟩ cnE_scr (fun v σ _ => K v σ)) = cnE_VC bz o n e v o' n' e' cs K := by kernel_rfl
def rr0_VC (bz x : Nat → Int) (o n : Nat) (e v : Int) (o' n' : Nat) (e' : Int) (cs : List AV) (N : NS) (Q : QS) (K : Unit) : Prop :=
  need ([AV.ptr (4 : Nat) (0 : Nat)] = [AV.ptr (4 : Nat) (0 : Nat)]) ∧
  (need (AH.get (Prod.snd (rtS x o n e cs (0 : Nat))) (4 : Nat) =
  AObj.cells (108 : Nat) [AV.slice (3 : Nat) o n none, AV.int IntKind.i64 e]) ∧
  (need (AH.get (Prod.snd (rtS x o n e cs (0 : Nat))) (3 : Nat) = AObj.opn (5 : Nat) (1 : Nat) cs) ∧
  (need (nuOk bz cs o n e v o' n' e') ∧
  (N (45 : Nat)
  [some (AV.ptr (1 : Nat) (0 : Nat)), some (AV.ptr (4 : Nat) (0 : Nat)), some (AV.ptr (5 : Nat) (0 : Nat)),
    some (AV.int IntKind.i64 (1 : Int))]
  { nx := (6 : Nat),
    m :=
      [((5 : Nat),
          AObj.cells (90 : Nat)
            [AV.int IntKind.i64 (IntKind.wrap IntKind.i64 (if (1000 : Int) < v then (1000 : Int) else v)),
              AV.int IntKind.i64 (0 : Int), AV.int IntKind.i64 (0 : Int), AV.int IntKind.i64 (0 : Int),
              AV.int IntKind.i64 (0 : Int), AV.int IntKind.i64 (0 : Int), AV.int IntKind.i64 (0 : Int)]),
        ((4 : Nat), AObj.cells (108 : Nat) [AV.slice (3 : Nat) o' n' none, AV.int IntKind.i64 e']),
        ((3 : Nat), AObj.opn (5 : Nat) (1 : Nat) cs),
        ((1 : Nat),
          AObj.cells (23 : Nat)
            [AV.int IntKind.i64 (0 : Int), AV.int IntKind.i64 (0 : Int), AV.int IntKind.i64 (0 : Int),
              AV.int IntKind.i64 (0 : Int), AV.int IntKind.i64 (0 : Int), AV.int IntKind.i64 (0 : Int),
              AV.int IntKind.i64 (0 : Int)]),
        ((0 : Nat), AObj.ro cs)] }))))
def rr0_scr : Plan := .z
theorem rr0_vc (bz x : Nat → Int) (o n : Nat) (e v : Int) (o' n' : Nat) (e' : Int) (cs : List AV) (N : NS) (Q : QS) (K : Unit) : (wpP (XRr bz o n e v o' n' e' cs) (symC Try.prog (bodyOf Try.prog 53) []) 1 (loopAt Try.prog 53 0) 0 (rndS [2, 4, 5, 6] N Q) (rtS x o n e cs 0).1 (rtS x o n e cs 0).2 rr0_scr) = rr0_VC bz x o n e v o' n' e' cs N Q K := by kernel_rfl
def rr1_VC (bz x : Nat → Int) (o n : Nat) (e v : Int) (o' n' : Nat) (e' : Int) (cs : List AV) (N : NS) (Q : QS) (K : Unit) : Prop :=
  need ([AV.ptr (4 : Nat) (0 : Nat)] = [AV.ptr (4 : Nat) (0 : Nat)]) ∧
  (need (AH.get (Prod.snd (rtS x o n e cs (1 : Nat))) (4 : Nat) =
  AObj.cells (108 : Nat) [AV.slice (3 : Nat) o n none, AV.int IntKind.i64 e]) ∧
  (need (AH.get (Prod.snd (rtS x o n e cs (1 : Nat))) (3 : Nat) = AObj.opn (5 : Nat) (1 : Nat) cs) ∧
  (need (nuOk bz cs o n e v o' n' e') ∧
  (N (45 : Nat)
  [some (AV.ptr (1 : Nat) (0 : Nat)), some (AV.ptr (4 : Nat) (0 : Nat)), some (AV.ptr (5 : Nat) (0 : Nat)),
    some (AV.int IntKind.i64 (2 : Int))]
  { nx := (6 : Nat),
    m :=
      [((5 : Nat),
          AObj.cells (90 : Nat)
            [AV.int IntKind.i64 (x (0 : Nat)),
              AV.int IntKind.i64 (IntKind.wrap IntKind.i64 (if (1000 : Int) < v then (1000 : Int) else v)),
              AV.int IntKind.i64 (0 : Int), AV.int IntKind.i64 (0 : Int), AV.int IntKind.i64 (0 : Int),
              AV.int IntKind.i64 (0 : Int), AV.int IntKind.i64 (0 : Int)]),
        ((4 : Nat), AObj.cells (108 : Nat) [AV.slice (3 : Nat) o' n' none, AV.int IntKind.i64 e']),
        ((3 : Nat), AObj.opn (5 : Nat) (1 : Nat) cs),
        ((1 : Nat),
          AObj.cells (23 : Nat)
            [AV.int IntKind.i64 (0 : Int), AV.int IntKind.i64 (0 : Int), AV.int IntKind.i64 (0 : Int),
              AV.int IntKind.i64 (0 : Int), AV.int IntKind.i64 (0 : Int), AV.int IntKind.i64 (0 : Int),
              AV.int IntKind.i64 (0 : Int)]),
        ((0 : Nat), AObj.ro cs)] }))))
def rr1_scr : Plan := .z
theorem rr1_vc (bz x : Nat → Int) (o n : Nat) (e v : Int) (o' n' : Nat) (e' : Int) (cs : List AV) (N : NS) (Q : QS) (K : Unit) : (wpP (XRr bz o n e v o' n' e' cs) (symC Try.prog (bodyOf Try.prog 53) []) 1 (loopAt Try.prog 53 0) 0 (rndS [2, 4, 5, 6] N Q) (rtS x o n e cs 1).1 (rtS x o n e cs 1).2 rr1_scr) = rr1_VC bz x o n e v o' n' e' cs N Q K := by kernel_rfl
def rr2_VC (bz x : Nat → Int) (o n : Nat) (e v : Int) (o' n' : Nat) (e' : Int) (cs : List AV) (N : NS) (Q : QS) (K : Unit) : Prop :=
  need ([AV.ptr (4 : Nat) (0 : Nat)] = [AV.ptr (4 : Nat) (0 : Nat)]) ∧
  (need (AH.get (Prod.snd (rtS x o n e cs (2 : Nat))) (4 : Nat) =
  AObj.cells (108 : Nat) [AV.slice (3 : Nat) o n none, AV.int IntKind.i64 e]) ∧
  (need (AH.get (Prod.snd (rtS x o n e cs (2 : Nat))) (3 : Nat) = AObj.opn (5 : Nat) (1 : Nat) cs) ∧
  (need (nuOk bz cs o n e v o' n' e') ∧
  (N (45 : Nat)
  [some (AV.ptr (1 : Nat) (0 : Nat)), some (AV.ptr (4 : Nat) (0 : Nat)), some (AV.ptr (5 : Nat) (0 : Nat)),
    some (AV.int IntKind.i64 (3 : Int))]
  { nx := (6 : Nat),
    m :=
      [((5 : Nat),
          AObj.cells (90 : Nat)
            [AV.int IntKind.i64 (x (0 : Nat)), AV.int IntKind.i64 (x (1 : Nat)),
              AV.int IntKind.i64 (IntKind.wrap IntKind.i64 (if (1000 : Int) < v then (1000 : Int) else v)),
              AV.int IntKind.i64 (0 : Int), AV.int IntKind.i64 (0 : Int), AV.int IntKind.i64 (0 : Int),
              AV.int IntKind.i64 (0 : Int)]),
        ((4 : Nat), AObj.cells (108 : Nat) [AV.slice (3 : Nat) o' n' none, AV.int IntKind.i64 e']),
        ((3 : Nat), AObj.opn (5 : Nat) (1 : Nat) cs),
        ((1 : Nat),
          AObj.cells (23 : Nat)
            [AV.int IntKind.i64 (0 : Int), AV.int IntKind.i64 (0 : Int), AV.int IntKind.i64 (0 : Int),
              AV.int IntKind.i64 (0 : Int), AV.int IntKind.i64 (0 : Int), AV.int IntKind.i64 (0 : Int),
              AV.int IntKind.i64 (0 : Int)]),
        ((0 : Nat), AObj.ro cs)] }))))
def rr2_scr : Plan := .z
theorem rr2_vc (bz x : Nat → Int) (o n : Nat) (e v : Int) (o' n' : Nat) (e' : Int) (cs : List AV) (N : NS) (Q : QS) (K : Unit) : (wpP (XRr bz o n e v o' n' e' cs) (symC Try.prog (bodyOf Try.prog 53) []) 1 (loopAt Try.prog 53 0) 0 (rndS [2, 4, 5, 6] N Q) (rtS x o n e cs 2).1 (rtS x o n e cs 2).2 rr2_scr) = rr2_VC bz x o n e v o' n' e' cs N Q K := by kernel_rfl
def rr3_VC (bz x : Nat → Int) (o n : Nat) (e v : Int) (o' n' : Nat) (e' : Int) (cs : List AV) (N : NS) (Q : QS) (K : Unit) : Prop :=
  need ([AV.ptr (4 : Nat) (0 : Nat)] = [AV.ptr (4 : Nat) (0 : Nat)]) ∧
  (need (AH.get (Prod.snd (rtS x o n e cs (3 : Nat))) (4 : Nat) =
  AObj.cells (108 : Nat) [AV.slice (3 : Nat) o n none, AV.int IntKind.i64 e]) ∧
  (need (AH.get (Prod.snd (rtS x o n e cs (3 : Nat))) (3 : Nat) = AObj.opn (5 : Nat) (1 : Nat) cs) ∧
  (need (nuOk bz cs o n e v o' n' e') ∧
  (N (45 : Nat)
  [some (AV.ptr (1 : Nat) (0 : Nat)), some (AV.ptr (4 : Nat) (0 : Nat)), some (AV.ptr (5 : Nat) (0 : Nat)),
    some (AV.int IntKind.i64 (4 : Int))]
  { nx := (6 : Nat),
    m :=
      [((5 : Nat),
          AObj.cells (90 : Nat)
            [AV.int IntKind.i64 (x (0 : Nat)), AV.int IntKind.i64 (x (1 : Nat)), AV.int IntKind.i64 (x (2 : Nat)),
              AV.int IntKind.i64 (IntKind.wrap IntKind.i64 (if (1000 : Int) < v then (1000 : Int) else v)),
              AV.int IntKind.i64 (0 : Int), AV.int IntKind.i64 (0 : Int), AV.int IntKind.i64 (0 : Int)]),
        ((4 : Nat), AObj.cells (108 : Nat) [AV.slice (3 : Nat) o' n' none, AV.int IntKind.i64 e']),
        ((3 : Nat), AObj.opn (5 : Nat) (1 : Nat) cs),
        ((1 : Nat),
          AObj.cells (23 : Nat)
            [AV.int IntKind.i64 (0 : Int), AV.int IntKind.i64 (0 : Int), AV.int IntKind.i64 (0 : Int),
              AV.int IntKind.i64 (0 : Int), AV.int IntKind.i64 (0 : Int), AV.int IntKind.i64 (0 : Int),
              AV.int IntKind.i64 (0 : Int)]),
        ((0 : Nat), AObj.ro cs)] }))))
def rr3_scr : Plan := .z
theorem rr3_vc (bz x : Nat → Int) (o n : Nat) (e v : Int) (o' n' : Nat) (e' : Int) (cs : List AV) (N : NS) (Q : QS) (K : Unit) : (wpP (XRr bz o n e v o' n' e' cs) (symC Try.prog (bodyOf Try.prog 53) []) 1 (loopAt Try.prog 53 0) 0 (rndS [2, 4, 5, 6] N Q) (rtS x o n e cs 3).1 (rtS x o n e cs 3).2 rr3_scr) = rr3_VC bz x o n e v o' n' e' cs N Q K := by kernel_rfl
def rr4_VC (bz x : Nat → Int) (o n : Nat) (e v : Int) (o' n' : Nat) (e' : Int) (cs : List AV) (N : NS) (Q : QS) (K : Unit) : Prop :=
  need ([AV.ptr (4 : Nat) (0 : Nat)] = [AV.ptr (4 : Nat) (0 : Nat)]) ∧
  (need (AH.get (Prod.snd (rtS x o n e cs (4 : Nat))) (4 : Nat) =
  AObj.cells (108 : Nat) [AV.slice (3 : Nat) o n none, AV.int IntKind.i64 e]) ∧
  (need (AH.get (Prod.snd (rtS x o n e cs (4 : Nat))) (3 : Nat) = AObj.opn (5 : Nat) (1 : Nat) cs) ∧
  (need (nuOk bz cs o n e v o' n' e') ∧
  (N (45 : Nat)
  [some (AV.ptr (1 : Nat) (0 : Nat)), some (AV.ptr (4 : Nat) (0 : Nat)), some (AV.ptr (5 : Nat) (0 : Nat)),
    some (AV.int IntKind.i64 (5 : Int))]
  { nx := (6 : Nat),
    m :=
      [((5 : Nat),
          AObj.cells (90 : Nat)
            [AV.int IntKind.i64 (x (0 : Nat)), AV.int IntKind.i64 (x (1 : Nat)), AV.int IntKind.i64 (x (2 : Nat)),
              AV.int IntKind.i64 (x (3 : Nat)),
              AV.int IntKind.i64 (IntKind.wrap IntKind.i64 (if (1000 : Int) < v then (1000 : Int) else v)),
              AV.int IntKind.i64 (0 : Int), AV.int IntKind.i64 (0 : Int)]),
        ((4 : Nat), AObj.cells (108 : Nat) [AV.slice (3 : Nat) o' n' none, AV.int IntKind.i64 e']),
        ((3 : Nat), AObj.opn (5 : Nat) (1 : Nat) cs),
        ((1 : Nat),
          AObj.cells (23 : Nat)
            [AV.int IntKind.i64 (0 : Int), AV.int IntKind.i64 (0 : Int), AV.int IntKind.i64 (0 : Int),
              AV.int IntKind.i64 (0 : Int), AV.int IntKind.i64 (0 : Int), AV.int IntKind.i64 (0 : Int),
              AV.int IntKind.i64 (0 : Int)]),
        ((0 : Nat), AObj.ro cs)] }))))
def rr4_scr : Plan := .z
theorem rr4_vc (bz x : Nat → Int) (o n : Nat) (e v : Int) (o' n' : Nat) (e' : Int) (cs : List AV) (N : NS) (Q : QS) (K : Unit) : (wpP (XRr bz o n e v o' n' e' cs) (symC Try.prog (bodyOf Try.prog 53) []) 1 (loopAt Try.prog 53 0) 0 (rndS [2, 4, 5, 6] N Q) (rtS x o n e cs 4).1 (rtS x o n e cs 4).2 rr4_scr) = rr4_VC bz x o n e v o' n' e' cs N Q K := by kernel_rfl
def rr5_VC (bz x : Nat → Int) (o n : Nat) (e v : Int) (o' n' : Nat) (e' : Int) (cs : List AV) (N : NS) (Q : QS) (K : Unit) : Prop :=
  need ([AV.ptr (4 : Nat) (0 : Nat)] = [AV.ptr (4 : Nat) (0 : Nat)]) ∧
  (need (AH.get (Prod.snd (rtS x o n e cs (5 : Nat))) (4 : Nat) =
  AObj.cells (108 : Nat) [AV.slice (3 : Nat) o n none, AV.int IntKind.i64 e]) ∧
  (need (AH.get (Prod.snd (rtS x o n e cs (5 : Nat))) (3 : Nat) = AObj.opn (5 : Nat) (1 : Nat) cs) ∧
  (need (nuOk bz cs o n e v o' n' e') ∧
  (N (45 : Nat)
  [some (AV.ptr (1 : Nat) (0 : Nat)), some (AV.ptr (4 : Nat) (0 : Nat)), some (AV.ptr (5 : Nat) (0 : Nat)),
    some (AV.int IntKind.i64 (6 : Int))]
  { nx := (6 : Nat),
    m :=
      [((5 : Nat),
          AObj.cells (90 : Nat)
            [AV.int IntKind.i64 (x (0 : Nat)), AV.int IntKind.i64 (x (1 : Nat)), AV.int IntKind.i64 (x (2 : Nat)),
              AV.int IntKind.i64 (x (3 : Nat)), AV.int IntKind.i64 (x (4 : Nat)),
              AV.int IntKind.i64 (IntKind.wrap IntKind.i64 (if (1000 : Int) < v then (1000 : Int) else v)),
              AV.int IntKind.i64 (0 : Int)]),
        ((4 : Nat), AObj.cells (108 : Nat) [AV.slice (3 : Nat) o' n' none, AV.int IntKind.i64 e']),
        ((3 : Nat), AObj.opn (5 : Nat) (1 : Nat) cs),
        ((1 : Nat),
          AObj.cells (23 : Nat)
            [AV.int IntKind.i64 (0 : Int), AV.int IntKind.i64 (0 : Int), AV.int IntKind.i64 (0 : Int),
              AV.int IntKind.i64 (0 : Int), AV.int IntKind.i64 (0 : Int), AV.int IntKind.i64 (0 : Int),
              AV.int IntKind.i64 (0 : Int)]),
        ((0 : Nat), AObj.ro cs)] }))))
def rr5_scr : Plan := .z
theorem rr5_vc (bz x : Nat → Int) (o n : Nat) (e v : Int) (o' n' : Nat) (e' : Int) (cs : List AV) (N : NS) (Q : QS) (K : Unit) : (wpP (XRr bz o n e v o' n' e' cs) (symC Try.prog (bodyOf Try.prog 53) []) 1 (loopAt Try.prog 53 0) 0 (rndS [2, 4, 5, 6] N Q) (rtS x o n e cs 5).1 (rtS x o n e cs 5).2 rr5_scr) = rr5_VC bz x o n e v o' n' e' cs N Q K := by kernel_rfl
def rr6_VC (bz x : Nat → Int) (o n : Nat) (e v : Int) (o' n' : Nat) (e' : Int) (cs : List AV) (N : NS) (Q : QS) (K : Unit) : Prop :=
  need ([AV.ptr (4 : Nat) (0 : Nat)] = [AV.ptr (4 : Nat) (0 : Nat)]) ∧
  (need (AH.get (Prod.snd (rtS x o n e cs (6 : Nat))) (4 : Nat) =
  AObj.cells (108 : Nat) [AV.slice (3 : Nat) o n none, AV.int IntKind.i64 e]) ∧
  (need (AH.get (Prod.snd (rtS x o n e cs (6 : Nat))) (3 : Nat) = AObj.opn (5 : Nat) (1 : Nat) cs) ∧
  (need (nuOk bz cs o n e v o' n' e') ∧
  (N (45 : Nat)
  [some (AV.ptr (1 : Nat) (0 : Nat)), some (AV.ptr (4 : Nat) (0 : Nat)), some (AV.ptr (5 : Nat) (0 : Nat)),
    some (AV.int IntKind.i64 (7 : Int))]
  { nx := (6 : Nat),
    m :=
      [((5 : Nat),
          AObj.cells (90 : Nat)
            [AV.int IntKind.i64 (x (0 : Nat)), AV.int IntKind.i64 (x (1 : Nat)), AV.int IntKind.i64 (x (2 : Nat)),
              AV.int IntKind.i64 (x (3 : Nat)), AV.int IntKind.i64 (x (4 : Nat)), AV.int IntKind.i64 (x (5 : Nat)),
              AV.int IntKind.i64 (IntKind.wrap IntKind.i64 (if (1000 : Int) < v then (1000 : Int) else v))]),
        ((4 : Nat), AObj.cells (108 : Nat) [AV.slice (3 : Nat) o' n' none, AV.int IntKind.i64 e']),
        ((3 : Nat), AObj.opn (5 : Nat) (1 : Nat) cs),
        ((1 : Nat),
          AObj.cells (23 : Nat)
            [AV.int IntKind.i64 (0 : Int), AV.int IntKind.i64 (0 : Int), AV.int IntKind.i64 (0 : Int),
              AV.int IntKind.i64 (0 : Int), AV.int IntKind.i64 (0 : Int), AV.int IntKind.i64 (0 : Int),
              AV.int IntKind.i64 (0 : Int)]),
        ((0 : Nat), AObj.ro cs)] }))))
def rr6_scr : Plan := .z
theorem rr6_vc (bz x : Nat → Int) (o n : Nat) (e v : Int) (o' n' : Nat) (e' : Int) (cs : List AV) (N : NS) (Q : QS) (K : Unit) : (wpP (XRr bz o n e v o' n' e' cs) (symC Try.prog (bodyOf Try.prog 53) []) 1 (loopAt Try.prog 53 0) 0 (rndS [2, 4, 5, 6] N Q) (rtS x o n e cs 6).1 (rtS x o n e cs 6).2 rr6_scr) = rr6_VC bz x o n e v o' n' e' cs N Q K := by kernel_rfl
def rr7_VC (bz x : Nat → Int) (o n : Nat) (e v : Int) (o' n' : Nat) (e' : Int) (cs : List AV) (N : NS) (Q : QS) (K : Unit) : Prop :=
  Q (Exit.exit (0 : Nat)) (45 : Nat)
  [some (AV.ptr (1 : Nat) (0 : Nat)), some (AV.ptr (4 : Nat) (0 : Nat)), some (AV.ptr (5 : Nat) (0 : Nat)),
    some (AV.int IntKind.i64 (7 : Int))]
  { nx := (6 : Nat),
    m :=
      [((5 : Nat),
          AObj.cells (90 : Nat)
            [AV.int IntKind.i64 (x (0 : Nat)), AV.int IntKind.i64 (x (1 : Nat)), AV.int IntKind.i64 (x (2 : Nat)),
              AV.int IntKind.i64 (x (3 : Nat)), AV.int IntKind.i64 (x (4 : Nat)), AV.int IntKind.i64 (x (5 : Nat)),
              AV.int IntKind.i64 (x (6 : Nat))]),
        ((4 : Nat), AObj.cells (108 : Nat) [AV.slice (3 : Nat) o n none, AV.int IntKind.i64 e]),
        ((3 : Nat), AObj.opn (5 : Nat) (1 : Nat) cs),
        ((1 : Nat),
          AObj.cells (23 : Nat)
            [AV.int IntKind.i64 (0 : Int), AV.int IntKind.i64 (0 : Int), AV.int IntKind.i64 (0 : Int),
              AV.int IntKind.i64 (0 : Int), AV.int IntKind.i64 (0 : Int), AV.int IntKind.i64 (0 : Int),
              AV.int IntKind.i64 (0 : Int)]),
        ((0 : Nat), AObj.ro cs)] }
def rr7_scr : Plan := .z
theorem rr7_vc (bz x : Nat → Int) (o n : Nat) (e v : Int) (o' n' : Nat) (e' : Int) (cs : List AV) (N : NS) (Q : QS) (K : Unit) : (wpP (XRr bz o n e v o' n' e' cs) (symC Try.prog (bodyOf Try.prog 53) []) 1 (loopAt Try.prog 53 0) 0 (rndS [2, 4, 5, 6] N Q) (rtS x o n e cs 7).1 (rtS x o n e cs 7).2 rr7_scr) = rr7_VC bz x o n e v o' n' e' cs N Q K := by kernel_rfl
end Go.Proofs.Ytnfelncgeihihaa.V
namespace Go.Proofs.Ytnfelncgeihihaa.V
open Go Go.Proofs
set_option maxRecDepth 100000
set_option maxHeartbeats 4000000
set_option linter.unusedSimpArgs false
set_option linter.unusedVariables false
theorem nu_inv {bz : Nat → Int} {cs : List AV} (hb : Byt cs bz) {s : RS} (h : s.o + s.n = cs.length) : (nu bz s).2.o + (nu bz s).2.n = cs.length ∧ (nu bz s).2.n ≤ s.n ∧ 0 ≤ (nu bz s).1 ∧ (nu bz s).1 < 18446744073709551616 := by
  unfold nu
  split
  · split
    · simp [h]
    · rename_i hn
      obtain ⟨_, c0, c1⟩ := hb.2 s.o (by omega)
      split
      · simp; omega
      · split
        · simp [h]
        · split
          · simp [h]
          · rename_i q _
            have hk : (bz s.o - 247).toNat ≤ 8 := by omega
            obtain ⟨a, b⟩ := hv_bd hb (o := s.o) (k := (bz s.o - 247).toNat) (by omega) (bz s.o - 247).toNat (Nat.le_refl _)
            have := pow_le8 hk
            simp; omega
  · simp [h]
theorem cu_inv {bz : Nat → Int} {cs : List AV} (hb : Byt cs bz) {s : RS} (h : s.o + s.n = cs.length) : (cu bz s).2.o + (cu bz s).2.n = cs.length ∧ (cu bz s).2.n ≤ s.n ∧ 0 ≤ (cu bz s).1 ∧ (cu bz s).1 ≤ 1000 := by
  obtain ⟨a, b, c, d⟩ := nu_inv hb h
  unfold cu
  split
  · split
    · simp [a, b]
    · simp [a, b, c]; omega
  · simp [a, b]
theorem cnE_sc {bz : Nat → Int} {o n : Nat} {e : Int} {cs : List AV} (hb : Byt cs bz) (hl : o + n = cs.length) (hn : n ≤ 1000) : SC Try.prog 77 [.ptr 1 0, .int .i64 1000] ⟨2, [(1, .cells 105 [.slice 0 o n none, .int .i64 e, .bool true]), (0, .opn 5 1 cs)]⟩
    (fun v τ => v = .int .i64 (cu bz ⟨o, n, e⟩).1 ∧ τ.get 0 = .opn 5 1 cs ∧ τ.get 1 = .cells 105 [.slice 0 (cu bz ⟨o, n, e⟩).2.o (cu bz ⟨o, n, e⟩).2.n none, .int .i64 (cu bz ⟨o, n, e⟩).2.e, .bool true]) := by
  obtain ⟨i1, i2, i3, i4⟩ := nu_inv hb (s := ⟨o, n, e⟩) hl
  refine sc_of_vcT (XCn_ok bz o n e (nu bz ⟨o, n, e⟩).1 (nu bz ⟨o, n, e⟩).2.o (nu bz ⟨o, n, e⟩).2.n (nu bz ⟨o, n, e⟩).2.e cs) (by kernel_rfl) (fun p _ L hL => by cases hL) (cnE_vc bz o n e (nu bz ⟨o, n, e⟩).1 (nu bz ⟨o, n, e⟩).2.o (nu bz ⟨o, n, e⟩).2.n (nu bz ⟨o, n, e⟩).2.e cs _) ?_
  unfold cnE_VC
  refine ⟨rfl, rfl, rfl, ⟨hb, hl, hn, rfl⟩, fun h => ?_, fun h => ⟨fun q => ?_, fun q => ?_⟩⟩
  · have h : ¬ (nu bz ⟨o, n, e⟩).2.e = 0 := by simpa using h
    unfold cu
    rw [if_neg h]
    exact ⟨rfl, rfl, rfl⟩
  · have h : (nu bz ⟨o, n, e⟩).2.e = 0 := by simpa using h
    have q : (nu bz ⟨o, n, e⟩).1 > 1000 := by simpa using q
    unfold cu
    rw [if_pos h, if_pos q]
    exact ⟨rfl, rfl, rfl⟩
  · have h : (nu bz ⟨o, n, e⟩).2.e = 0 := by simpa using h
    have q : ¬ (nu bz ⟨o, n, e⟩).1 > 1000 := by simpa using q
    unfold cu
    rw [if_pos h, if_neg q, wrap_in (by omega) (by omega)]
    exact ⟨rfl, rfl, rfl⟩
def cuTr (bz : Nat → Int) (o n : Nat) (e v : Int) (o' n' : Nat) (e' : Int) (cs : List AV) : Tr1 := fun xs σ s K =>
  need (xs = [.ptr 3 0, .int .i64 1000]) ∧ need (σ.get 3 = .cells 105 [.slice 2 o n none, .int .i64 e, .bool true]) ∧ need (σ.get 2 = .opn 5 1 cs) ∧ need (cuOk bz cs o n e v o' n' e') ∧
    K (.int .i64 v) (σ.set 3 (.cells 105 [.slice 2 o' n' none, .int .i64 e', .bool true])) s
theorem cuTr_ok (bz : Nat → Int) (o n : Nat) (e v : Int) (o' n' : Nat) (e' : Int) (cs : List AV) : TrOk Try.prog 77 (cuTr bz o n e v o' n' e' cs) := by
  intro xs σ s K h
  obtain ⟨hx, hR, hB, ⟨hb, hl, hn, hq⟩, hk⟩ := h
  have hx : xs = [.ptr 3 0, .int .i64 1000] := hx
  subst hx
  have key := cnE_sc (e := e) hb hl hn
  rw [hq] at key
  refine (SC.frameS (b := 2) (R := 3) (c0 := [.slice 0 o n none, .int .i64 e, .bool true]) (c2 := [.slice 0 o' n' none, .int .i64 e', .bool true]) (args0 := [.ptr 1 0, .int .i64 1000]) hB hR (by omega) hb.1 rfl rfl rfl rfl key).mono ?_
  rintro v τ ⟨rfl, rfl⟩
  exact ⟨s, hk⟩
noncomputable def XCu (bz : Nat → Int) (o n : Nat) (e v : Int) (o' n' : Nat) (e' : Int) (cs : List AV) : Cx := ⟨Try.prog, withT 77 (cuTr bz o n e v o' n' e' cs) (purT []), purO [], [], 20, lookL []⟩
theorem XCu_ok (bz : Nat → Int) (o n : Nat) (e v : Int) (o' n' : Nat) (e' : Int) (cs : List AV) : CxOk (XCu bz o n e v o' n' e' cs) := ⟨withT_ok (cuTr_ok bz o n e v o' n' e' cs) (purT_ok PurOk.nil), purO_ok PurOk.nil, mixed⟩
/-- The readers behind so many numbers; the numbers. -/
def rq (bz : Nat → Int) (n : Nat) : Nat → RS
  | 0 => ⟨0, n, 0⟩
  | i + 1 => (nu bz (rq bz n i)).2
def rx (bz : Nat → Int) (n i : Nat) : Int := mi (nu bz (rq bz n i)).1
def cq (bz : Nat → Int) (n : Nat) : Nat → RS
  | 0 => ⟨0, n, 0⟩
  | i + 1 => (cu bz (cq bz n i)).2
def cx (bz : Nat → Int) (n i : Nat) : Int := (cu bz (cq bz n i)).1
theorem rq_inv {bz : Nat → Int} {cs : List AV} (hb : Byt cs bz) {n : Nat} (h : n = cs.length) : ∀ i, (rq bz n i).o + (rq bz n i).n = cs.length ∧ (rq bz n i).n ≤ n
  | 0 => by simp [rq, h]
  | i + 1 => by
    obtain ⟨a, b⟩ := rq_inv hb h i
    obtain ⟨c, d, _⟩ := nu_inv hb a
    exact ⟨c, by simp only [rq]; omega⟩
theorem cq_inv {bz : Nat → Int} {cs : List AV} (hb : Byt cs bz) {n : Nat} (h : n = cs.length) : ∀ i, (cq bz n i).o + (cq bz n i).n = cs.length ∧ (cq bz n i).n ≤ n
  | 0 => by simp [cq, h]
  | i + 1 => by
    obtain ⟨a, b⟩ := cq_inv hb h i
    obtain ⟨c, d, _⟩ := cu_inv hb a
    exact ⟨c, by simp only [cq]; omega⟩
theorem rx_bd {bz : Nat → Int} {cs : List AV} (hb : Byt cs bz) {n : Nat} (h : n = cs.length) (i : Nat) : 0 ≤ rx bz n i ∧ rx bz n i ≤ 1000 := by
  obtain ⟨a, b⟩ := rq_inv hb h i
  obtain ⟨_, _, c, _⟩ := nu_inv hb a
  unfold rx mi
  split <;> omega
/-- All seven are in order. -/
def rdG (n7 : Nat) (e7 : Int) (x : Nat → Int) : Bool := decide (e7 = 0) && decide (n7 = 0) && okF (x 0) (x 1) (x 2) (x 3) (x 4) (x 5) (x 6)
theorem same_seq {bz : Nat → Int} {n : Nat} : ∀ i, (rq bz n i = cq bz n i ∧ ∀ j, j < i → rx bz n j = cx bz n j ∧ (cq bz n (j + 1)).e = 0) ∨ ((cq bz n i).e ≠ 0 ∧ ((rq bz n i).e ≠ 0 ∨ ∃ j, j < i ∧ rx bz n j = 1000))
  | 0 => .inl ⟨rfl, fun j h => absurd h (Nat.not_lt_zero j)⟩
  | i + 1 => by
    have stay : ∀ s : RS, s.e ≠ 0 → (nu bz s).2.e ≠ 0 := fun s h => by unfold nu; rw [if_neg h]; exact h
    have stay' : ∀ s : RS, s.e ≠ 0 → (cu bz s).2.e ≠ 0 := fun s h => by unfold cu; rw [if_neg (stay s h)]; exact stay s h
    rcases same_seq i with ⟨h1, h2⟩ | ⟨h1, h2⟩
    · by_cases he : (nu bz (cq bz n i)).2.e = 0
      · by_cases hv : (nu bz (cq bz n i)).1 > 1000
        · right
          refine ⟨?_, .inr ⟨i, Nat.lt_succ_self i, ?_⟩⟩
          · show (cu bz (cq bz n i)).2.e ≠ 0
            unfold cu
            rw [if_pos he, if_pos hv]; simp
          · unfold rx mi
            rw [h1, if_pos (by omega)]
        · left
          have hc : cu bz (cq bz n i) = nu bz (cq bz n i) := by unfold cu; rw [if_pos he, if_neg hv]
          refine ⟨?_, fun j hj => ?_⟩
          · show (nu bz (rq bz n i)).2 = (cu bz (cq bz n i)).2
            rw [h1, hc]
          · by_cases e : j = i
            · subst e
              refine ⟨?_, ?_⟩
              · unfold rx cx mi
                rw [h1, hc, if_neg (by omega)]
              · show (cu bz (cq bz n j)).2.e = 0
                rw [hc, he]
            · exact h2 j (by omega)
      · right
        refine ⟨?_, .inl ?_⟩
        · show (cu bz (cq bz n i)).2.e ≠ 0
          unfold cu
          rw [if_neg he]; exact he
        · show (nu bz (rq bz n i)).2.e ≠ 0
          rw [h1]; exact he
    · right
      refine ⟨stay' _ h1, ?_⟩
      rcases h2 with h2 | ⟨j, hj, h2⟩
      · exact .inl (stay _ h2)
      · exact .inr ⟨j, by omega, h2⟩
theorem big_bad {x : Nat → Int} {j : Nat} (hj : j < 7) (h : x j = 1000) : okF (x 0) (x 1) (x 2) (x 3) (x 4) (x 5) (x 6) = false := by
  rw [Bool.eq_false_iff]
  intro q
  have := okF_bd q
  match j, hj with
  | 0, _ | 1, _ | 2, _ | 3, _ | 4, _ | 5, _ | 6, _ => omega
  | j + 7, h => omega
/-- Both readers find the same. -/
theorem read_same (bz : Nat → Int) (n : Nat) : rdG (rq bz n 7).n (rq bz n 7).e (rx bz n) = rdG (cq bz n 7).n (cq bz n 7).e (cx bz n) ∧ (rdG (rq bz n 7).n (rq bz n 7).e (rx bz n) = true → ∀ i, i < 7 → rx bz n i = cx bz n i) := by
  rcases same_seq (bz := bz) (n := n) 7 with ⟨h1, h2⟩ | ⟨h1, h2⟩
  · have e : ∀ i, i < 7 → rx bz n i = cx bz n i := fun i hi => (h2 i hi).1
    refine ⟨?_, fun _ => e⟩
    unfold rdG
    rw [h1, e 0 (by omega), e 1 (by omega), e 2 (by omega), e 3 (by omega), e 4 (by omega), e 5 (by omega), e 6 (by omega)]
  · have f2 : rdG (cq bz n 7).n (cq bz n 7).e (cx bz n) = false := by unfold rdG; simp [h1]
    have f1 : rdG (rq bz n 7).n (rq bz n 7).e (rx bz n) = false := by
      unfold rdG
      rcases h2 with h2 | ⟨j, hj, h2⟩
      · simp [h2]
      · rw [big_bad hj h2]; simp
    rw [f1, f2]
    exact ⟨rfl, fun h => by cases h⟩
end Go.Proofs.Ytnfelncgeihihaa.V
namespace Go.Proofs.Ytnfelncgeihihaa.V
open Go Go.Proofs
set_option maxRecDepth 100000
set_option linter.unusedVariables false
def pr0_VC (bz x : Nat → Int) (o n : Nat) (e v : Int) (o' n' : Nat) (e' : Int) (cs : List AV) (N : NS) (Q : QS) (K : Unit) : Prop :=
  need ([AV.ptr (3 : Nat) (0 : Nat), AV.int IntKind.i64 (1000 : Int)] =
  [AV.ptr (3 : Nat) (0 : Nat), AV.int IntKind.i64 (1000 : Int)]) ∧
  (need (AH.get (Prod.snd (ptS x o n e cs (0 : Nat))) (3 : Nat) =
  AObj.cells (105 : Nat) [AV.slice (2 : Nat) o n none, AV.int IntKind.i64 e, AV.bool true]) ∧
  (need (AH.get (Prod.snd (ptS x o n e cs (0 : Nat))) (2 : Nat) = AObj.opn (5 : Nat) (1 : Nat) cs) ∧
  (need (cuOk bz cs o n e v o' n' e') ∧
  (N (38 : Nat)
  [some (AV.ptr (1 : Nat) (0 : Nat)), some (AV.ptr (3 : Nat) (0 : Nat)), some (AV.ptr (4 : Nat) (0 : Nat)),
    some (AV.slice (5 : Nat) (0 : Nat) (7 : Nat) (some (7 : Nat))), some (AV.int IntKind.i64 (7 : Int)),
    some (AV.int IntKind.i64 (1 : Int))]
  { nx := (6 : Nat),
    m :=
      [((5 : Nat),
          AObj.cells (95 : Nat)
            [AV.ptr (4 : Nat) (0 : Nat), AV.ptr (4 : Nat) (1 : Nat), AV.ptr (4 : Nat) (2 : Nat),
              AV.ptr (4 : Nat) (3 : Nat), AV.ptr (4 : Nat) (4 : Nat), AV.ptr (4 : Nat) (5 : Nat),
              AV.ptr (4 : Nat) (6 : Nat)]),
        ((4 : Nat),
          AObj.cells (23 : Nat)
            [AV.int IntKind.i64 v, AV.int IntKind.i64 (0 : Int), AV.int IntKind.i64 (0 : Int),
              AV.int IntKind.i64 (0 : Int), AV.int IntKind.i64 (0 : Int), AV.int IntKind.i64 (0 : Int),
              AV.int IntKind.i64 (0 : Int)]),
        ((3 : Nat), AObj.cells (105 : Nat) [AV.slice (2 : Nat) o' n' none, AV.int IntKind.i64 e', AV.bool true]),
        ((2 : Nat), AObj.opn (5 : Nat) (1 : Nat) cs),
        ((1 : Nat),
          AObj.cells (23 : Nat)
            [AV.int IntKind.i64 (0 : Int), AV.int IntKind.i64 (0 : Int), AV.int IntKind.i64 (0 : Int),
              AV.int IntKind.i64 (0 : Int), AV.int IntKind.i64 (0 : Int), AV.int IntKind.i64 (0 : Int),
              AV.int IntKind.i64 (0 : Int)]),
        ((0 : Nat), AObj.ro cs)] }))))
def pr0_scr : Plan := .z
theorem pr0_vc (bz x : Nat → Int) (o n : Nat) (e v : Int) (o' n' : Nat) (e' : Int) (cs : List AV) (N : NS) (Q : QS) (K : Unit) : (wpP (XCu bz o n e v o' n' e' cs) (symC Try.prog (bodyOf Try.prog 47) []) 1 (loopAt Try.prog 47 0) 0 (rndS [2, 4, 5, 17, 18, 19] N Q) (ptS x o n e cs 0).1 (ptS x o n e cs 0).2 pr0_scr) = pr0_VC bz x o n e v o' n' e' cs N Q K := by kernel_rfl
def pr1_VC (bz x : Nat → Int) (o n : Nat) (e v : Int) (o' n' : Nat) (e' : Int) (cs : List AV) (N : NS) (Q : QS) (K : Unit) : Prop :=
  need ([AV.ptr (3 : Nat) (0 : Nat), AV.int IntKind.i64 (1000 : Int)] =
  [AV.ptr (3 : Nat) (0 : Nat), AV.int IntKind.i64 (1000 : Int)]) ∧
  (need (AH.get (Prod.snd (ptS x o n e cs (1 : Nat))) (3 : Nat) =
  AObj.cells (105 : Nat) [AV.slice (2 : Nat) o n none, AV.int IntKind.i64 e, AV.bool true]) ∧
  (need (AH.get (Prod.snd (ptS x o n e cs (1 : Nat))) (2 : Nat) = AObj.opn (5 : Nat) (1 : Nat) cs) ∧
  (need (cuOk bz cs o n e v o' n' e') ∧
  (N (38 : Nat)
  [some (AV.ptr (1 : Nat) (0 : Nat)), some (AV.ptr (3 : Nat) (0 : Nat)), some (AV.ptr (4 : Nat) (0 : Nat)),
    some (AV.slice (5 : Nat) (0 : Nat) (7 : Nat) (some (7 : Nat))), some (AV.int IntKind.i64 (7 : Int)),
    some (AV.int IntKind.i64 (2 : Int))]
  { nx := (6 : Nat),
    m :=
      [((5 : Nat),
          AObj.cells (95 : Nat)
            [AV.ptr (4 : Nat) (0 : Nat), AV.ptr (4 : Nat) (1 : Nat), AV.ptr (4 : Nat) (2 : Nat),
              AV.ptr (4 : Nat) (3 : Nat), AV.ptr (4 : Nat) (4 : Nat), AV.ptr (4 : Nat) (5 : Nat),
              AV.ptr (4 : Nat) (6 : Nat)]),
        ((4 : Nat),
          AObj.cells (23 : Nat)
            [AV.int IntKind.i64 (x (0 : Nat)), AV.int IntKind.i64 v, AV.int IntKind.i64 (0 : Int),
              AV.int IntKind.i64 (0 : Int), AV.int IntKind.i64 (0 : Int), AV.int IntKind.i64 (0 : Int),
              AV.int IntKind.i64 (0 : Int)]),
        ((3 : Nat), AObj.cells (105 : Nat) [AV.slice (2 : Nat) o' n' none, AV.int IntKind.i64 e', AV.bool true]),
        ((2 : Nat), AObj.opn (5 : Nat) (1 : Nat) cs),
        ((1 : Nat),
          AObj.cells (23 : Nat)
            [AV.int IntKind.i64 (0 : Int), AV.int IntKind.i64 (0 : Int), AV.int IntKind.i64 (0 : Int),
              AV.int IntKind.i64 (0 : Int), AV.int IntKind.i64 (0 : Int), AV.int IntKind.i64 (0 : Int),
              AV.int IntKind.i64 (0 : Int)]),
        ((0 : Nat), AObj.ro cs)] }))))
def pr1_scr : Plan := .z
theorem pr1_vc (bz x : Nat → Int) (o n : Nat) (e v : Int) (o' n' : Nat) (e' : Int) (cs : List AV) (N : NS) (Q : QS) (K : Unit) : (wpP (XCu bz o n e v o' n' e' cs) (symC Try.prog (bodyOf Try.prog 47) []) 1 (loopAt Try.prog 47 0) 0 (rndS [2, 4, 5, 17, 18, 19] N Q) (ptS x o n e cs 1).1 (ptS x o n e cs 1).2 pr1_scr) = pr1_VC bz x o n e v o' n' e' cs N Q K := by kernel_rfl
def pr2_VC (bz x : Nat → Int) (o n : Nat) (e v : Int) (o' n' : Nat) (e' : Int) (cs : List AV) (N : NS) (Q : QS) (K : Unit) : Prop :=
  need ([AV.ptr (3 : Nat) (0 : Nat), AV.int IntKind.i64 (1000 : Int)] =
  [AV.ptr (3 : Nat) (0 : Nat), AV.int IntKind.i64 (1000 : Int)]) ∧
  (need (AH.get (Prod.snd (ptS x o n e cs (2 : Nat))) (3 : Nat) =
  AObj.cells (105 : Nat) [AV.slice (2 : Nat) o n none, AV.int IntKind.i64 e, AV.bool true]) ∧
  (need (AH.get (Prod.snd (ptS x o n e cs (2 : Nat))) (2 : Nat) = AObj.opn (5 : Nat) (1 : Nat) cs) ∧
  (need (cuOk bz cs o n e v o' n' e') ∧
  (N (38 : Nat)
  [some (AV.ptr (1 : Nat) (0 : Nat)), some (AV.ptr (3 : Nat) (0 : Nat)), some (AV.ptr (4 : Nat) (0 : Nat)),
    some (AV.slice (5 : Nat) (0 : Nat) (7 : Nat) (some (7 : Nat))), some (AV.int IntKind.i64 (7 : Int)),
    some (AV.int IntKind.i64 (3 : Int))]
  { nx := (6 : Nat),
    m :=
      [((5 : Nat),
          AObj.cells (95 : Nat)
            [AV.ptr (4 : Nat) (0 : Nat), AV.ptr (4 : Nat) (1 : Nat), AV.ptr (4 : Nat) (2 : Nat),
              AV.ptr (4 : Nat) (3 : Nat), AV.ptr (4 : Nat) (4 : Nat), AV.ptr (4 : Nat) (5 : Nat),
              AV.ptr (4 : Nat) (6 : Nat)]),
        ((4 : Nat),
          AObj.cells (23 : Nat)
            [AV.int IntKind.i64 (x (0 : Nat)), AV.int IntKind.i64 (x (1 : Nat)), AV.int IntKind.i64 v,
              AV.int IntKind.i64 (0 : Int), AV.int IntKind.i64 (0 : Int), AV.int IntKind.i64 (0 : Int),
              AV.int IntKind.i64 (0 : Int)]),
        ((3 : Nat), AObj.cells (105 : Nat) [AV.slice (2 : Nat) o' n' none, AV.int IntKind.i64 e', AV.bool true]),
        ((2 : Nat), AObj.opn (5 : Nat) (1 : Nat) cs),
        ((1 : Nat),
          AObj.cells (23 : Nat)
            [AV.int IntKind.i64 (0 : Int), AV.int IntKind.i64 (0 : Int), AV.int IntKind.i64 (0 : Int),
              AV.int IntKind.i64 (0 : Int), AV.int IntKind.i64 (0 : Int), AV.int IntKind.i64 (0 : Int),
              AV.int IntKind.i64 (0 : Int)]),
        ((0 : Nat), AObj.ro cs)] }))))
def pr2_scr : Plan := .z
theorem pr2_vc (bz x : Nat → Int) (o n : Nat) (e v : Int) (o' n' : Nat) (e' : Int) (cs : List AV) (N : NS) (Q : QS) (K : Unit) : (wpP (XCu bz o n e v o' n' e' cs) (symC Try.prog (bodyOf Try.prog 47) []) 1 (loopAt Try.prog 47 0) 0 (rndS [2, 4, 5, 17, 18, 19] N Q) (ptS x o n e cs 2).1 (ptS x o n e cs 2).2 pr2_scr) = pr2_VC bz x o n e v o' n' e' cs N Q K := by kernel_rfl
def pr3_VC (bz x : Nat → Int) (o n : Nat) (e v : Int) (o' n' : Nat) (e' : Int) (cs : List AV) (N : NS) (Q : QS) (K : Unit) : Prop :=
  need ([AV.ptr (3 : Nat) (0 : Nat), AV.int IntKind.i64 (1000 : Int)] =
  [AV.ptr (3 : Nat) (0 : Nat), AV.int IntKind.i64 (1000 : Int)]) ∧
  (need (AH.get (Prod.snd (ptS x o n e cs (3 : Nat))) (3 : Nat) =
  AObj.cells (105 : Nat) [AV.slice (2 : Nat) o n none, AV.int IntKind.i64 e, AV.bool true]) ∧
  (need (AH.get (Prod.snd (ptS x o n e cs (3 : Nat))) (2 : Nat) = AObj.opn (5 : Nat) (1 : Nat) cs) ∧
  (need (cuOk bz cs o n e v o' n' e') ∧
  (N (38 : Nat)
  [some (AV.ptr (1 : Nat) (0 : Nat)), some (AV.ptr (3 : Nat) (0 : Nat)), some (AV.ptr (4 : Nat) (0 : Nat)),
    some (AV.slice (5 : Nat) (0 : Nat) (7 : Nat) (some (7 : Nat))), some (AV.int IntKind.i64 (7 : Int)),
    some (AV.int IntKind.i64 (4 : Int))]
  { nx := (6 : Nat),
    m :=
      [((5 : Nat),
          AObj.cells (95 : Nat)
            [AV.ptr (4 : Nat) (0 : Nat), AV.ptr (4 : Nat) (1 : Nat), AV.ptr (4 : Nat) (2 : Nat),
              AV.ptr (4 : Nat) (3 : Nat), AV.ptr (4 : Nat) (4 : Nat), AV.ptr (4 : Nat) (5 : Nat),
              AV.ptr (4 : Nat) (6 : Nat)]),
        ((4 : Nat),
          AObj.cells (23 : Nat)
            [AV.int IntKind.i64 (x (0 : Nat)), AV.int IntKind.i64 (x (1 : Nat)), AV.int IntKind.i64 (x (2 : Nat)),
              AV.int IntKind.i64 v, AV.int IntKind.i64 (0 : Int), AV.int IntKind.i64 (0 : Int),
              AV.int IntKind.i64 (0 : Int)]),
        ((3 : Nat), AObj.cells (105 : Nat) [AV.slice (2 : Nat) o' n' none, AV.int IntKind.i64 e', AV.bool true]),
        ((2 : Nat), AObj.opn (5 : Nat) (1 : Nat) cs),
        ((1 : Nat),
          AObj.cells (23 : Nat)
            [AV.int IntKind.i64 (0 : Int), AV.int IntKind.i64 (0 : Int), AV.int IntKind.i64 (0 : Int),
              AV.int IntKind.i64 (0 : Int), AV.int IntKind.i64 (0 : Int), AV.int IntKind.i64 (0 : Int),
              AV.int IntKind.i64 (0 : Int)]),
        ((0 : Nat), AObj.ro cs)] }))))
def pr3_scr : Plan := .z
theorem pr3_vc (bz x : Nat → Int) (o n : Nat) (e v : Int) (o' n' : Nat) (e' : Int) (cs : List AV) (N : NS) (Q : QS) (K : Unit) : (wpP (XCu bz o n e v o' n' e' cs) (symC Try.prog (bodyOf Try.prog 47) []) 1 (loopAt Try.prog 47 0) 0 (rndS [2, 4, 5, 17, 18, 19] N Q) (ptS x o n e cs 3).1 (ptS x o n e cs 3).2 pr3_scr) = pr3_VC bz x o n e v o' n' e' cs N Q K := by kernel_rfl
def pr4_VC (bz x : Nat → Int) (o n : Nat) (e v : Int) (o' n' : Nat) (e' : Int) (cs : List AV) (N : NS) (Q : QS) (K : Unit) : Prop :=
  need ([AV.ptr (3 : Nat) (0 : Nat), AV.int IntKind.i64 (1000 : Int)] =
  [AV.ptr (3 : Nat) (0 : Nat), AV.int IntKind.i64 (1000 : Int)]) ∧
  (need (AH.get (Prod.snd (ptS x o n e cs (4 : Nat))) (3 : Nat) =
  AObj.cells (105 : Nat) [AV.slice (2 : Nat) o n none, AV.int IntKind.i64 e, AV.bool true]) ∧
  (need (AH.get (Prod.snd (ptS x o n e cs (4 : Nat))) (2 : Nat) = AObj.opn (5 : Nat) (1 : Nat) cs) ∧
  (need (cuOk bz cs o n e v o' n' e') ∧
  (N (38 : Nat)
  [some (AV.ptr (1 : Nat) (0 : Nat)), some (AV.ptr (3 : Nat) (0 : Nat)), some (AV.ptr (4 : Nat) (0 : Nat)),
    some (AV.slice (5 : Nat) (0 : Nat) (7 : Nat) (some (7 : Nat))), some (AV.int IntKind.i64 (7 : Int)),
    some (AV.int IntKind.i64 (5 : Int))]
  { nx := (6 : Nat),
    m :=
      [((5 : Nat),
          AObj.cells (95 : Nat)
            [AV.ptr (4 : Nat) (0 : Nat), AV.ptr (4 : Nat) (1 : Nat), AV.ptr (4 : Nat) (2 : Nat),
              AV.ptr (4 : Nat) (3 : Nat), AV.ptr (4 : Nat) (4 : Nat), AV.ptr (4 : Nat) (5 : Nat),
              AV.ptr (4 : Nat) (6 : Nat)]),
        ((4 : Nat),
          AObj.cells (23 : Nat)
            [AV.int IntKind.i64 (x (0 : Nat)), AV.int IntKind.i64 (x (1 : Nat)), AV.int IntKind.i64 (x (2 : Nat)),
              AV.int IntKind.i64 (x (3 : Nat)), AV.int IntKind.i64 v, AV.int IntKind.i64 (0 : Int),
              AV.int IntKind.i64 (0 : Int)]),
        ((3 : Nat), AObj.cells (105 : Nat) [AV.slice (2 : Nat) o' n' none, AV.int IntKind.i64 e', AV.bool true]),
        ((2 : Nat), AObj.opn (5 : Nat) (1 : Nat) cs),
        ((1 : Nat),
          AObj.cells (23 : Nat)
            [AV.int IntKind.i64 (0 : Int), AV.int IntKind.i64 (0 : Int), AV.int IntKind.i64 (0 : Int),
              AV.int IntKind.i64 (0 : Int), AV.int IntKind.i64 (0 : Int), AV.int IntKind.i64 (0 : Int),
              AV.int IntKind.i64 (0 : Int)]),
        ((0 : Nat), AObj.ro cs)] }))))
def pr4_scr : Plan := .z
theorem pr4_vc (bz x : Nat → Int) (o n : Nat) (e v : Int) (o' n' : Nat) (e' : Int) (cs : List AV) (N : NS) (Q : QS) (K : Unit) : (wpP (XCu bz o n e v o' n' e' cs) (symC Try.prog (bodyOf Try.prog 47) []) 1 (loopAt Try.prog 47 0) 0 (rndS [2, 4, 5, 17, 18, 19] N Q) (ptS x o n e cs 4).1 (ptS x o n e cs 4).2 pr4_scr) = pr4_VC bz x o n e v o' n' e' cs N Q K := by kernel_rfl
def pr5_VC (bz x : Nat → Int) (o n : Nat) (e v : Int) (o' n' : Nat) (e' : Int) (cs : List AV) (N : NS) (Q : QS) (K : Unit) : Prop :=
  need ([AV.ptr (3 : Nat) (0 : Nat), AV.int IntKind.i64 (1000 : Int)] =
  [AV.ptr (3 : Nat) (0 : Nat), AV.int IntKind.i64 (1000 : Int)]) ∧
  (need (AH.get (Prod.snd (ptS x o n e cs (5 : Nat))) (3 : Nat) =
  AObj.cells (105 : Nat) [AV.slice (2 : Nat) o n none, AV.int IntKind.i64 e, AV.bool true]) ∧
  (need (AH.get (Prod.snd (ptS x o n e cs (5 : Nat))) (2 : Nat) = AObj.opn (5 : Nat) (1 : Nat) cs) ∧
  (need (cuOk bz cs o n e v o' n' e') ∧
  (N (38 : Nat)
  [some (AV.ptr (1 : Nat) (0 : Nat)), some (AV.ptr (3 : Nat) (0 : Nat)), some (AV.ptr (4 : Nat) (0 : Nat)),
    some (AV.slice (5 : Nat) (0 : Nat) (7 : Nat) (some (7 : Nat))), some (AV.int IntKind.i64 (7 : Int)),
    some (AV.int IntKind.i64 (6 : Int))]
  { nx := (6 : Nat),
    m :=
      [((5 : Nat),
          AObj.cells (95 : Nat)
            [AV.ptr (4 : Nat) (0 : Nat), AV.ptr (4 : Nat) (1 : Nat), AV.ptr (4 : Nat) (2 : Nat),
              AV.ptr (4 : Nat) (3 : Nat), AV.ptr (4 : Nat) (4 : Nat), AV.ptr (4 : Nat) (5 : Nat),
              AV.ptr (4 : Nat) (6 : Nat)]),
        ((4 : Nat),
          AObj.cells (23 : Nat)
            [AV.int IntKind.i64 (x (0 : Nat)), AV.int IntKind.i64 (x (1 : Nat)), AV.int IntKind.i64 (x (2 : Nat)),
              AV.int IntKind.i64 (x (3 : Nat)), AV.int IntKind.i64 (x (4 : Nat)), AV.int IntKind.i64 v,
              AV.int IntKind.i64 (0 : Int)]),
        ((3 : Nat), AObj.cells (105 : Nat) [AV.slice (2 : Nat) o' n' none, AV.int IntKind.i64 e', AV.bool true]),
        ((2 : Nat), AObj.opn (5 : Nat) (1 : Nat) cs),
        ((1 : Nat),
          AObj.cells (23 : Nat)
            [AV.int IntKind.i64 (0 : Int), AV.int IntKind.i64 (0 : Int), AV.int IntKind.i64 (0 : Int),
              AV.int IntKind.i64 (0 : Int), AV.int IntKind.i64 (0 : Int), AV.int IntKind.i64 (0 : Int),
              AV.int IntKind.i64 (0 : Int)]),
        ((0 : Nat), AObj.ro cs)] }))))
def pr5_scr : Plan := .z
theorem pr5_vc (bz x : Nat → Int) (o n : Nat) (e v : Int) (o' n' : Nat) (e' : Int) (cs : List AV) (N : NS) (Q : QS) (K : Unit) : (wpP (XCu bz o n e v o' n' e' cs) (symC Try.prog (bodyOf Try.prog 47) []) 1 (loopAt Try.prog 47 0) 0 (rndS [2, 4, 5, 17, 18, 19] N Q) (ptS x o n e cs 5).1 (ptS x o n e cs 5).2 pr5_scr) = pr5_VC bz x o n e v o' n' e' cs N Q K := by kernel_rfl
def pr6_VC (bz x : Nat → Int) (o n : Nat) (e v : Int) (o' n' : Nat) (e' : Int) (cs : List AV) (N : NS) (Q : QS) (K : Unit) : Prop :=
  need ([AV.ptr (3 : Nat) (0 : Nat), AV.int IntKind.i64 (1000 : Int)] =
  [AV.ptr (3 : Nat) (0 : Nat), AV.int IntKind.i64 (1000 : Int)]) ∧
  (need (AH.get (Prod.snd (ptS x o n e cs (6 : Nat))) (3 : Nat) =
  AObj.cells (105 : Nat) [AV.slice (2 : Nat) o n none, AV.int IntKind.i64 e, AV.bool true]) ∧
  (need (AH.get (Prod.snd (ptS x o n e cs (6 : Nat))) (2 : Nat) = AObj.opn (5 : Nat) (1 : Nat) cs) ∧
  (need (cuOk bz cs o n e v o' n' e') ∧
  (N (38 : Nat)
  [some (AV.ptr (1 : Nat) (0 : Nat)), some (AV.ptr (3 : Nat) (0 : Nat)), some (AV.ptr (4 : Nat) (0 : Nat)),
    some (AV.slice (5 : Nat) (0 : Nat) (7 : Nat) (some (7 : Nat))), some (AV.int IntKind.i64 (7 : Int)),
    some (AV.int IntKind.i64 (7 : Int))]
  { nx := (6 : Nat),
    m :=
      [((5 : Nat),
          AObj.cells (95 : Nat)
            [AV.ptr (4 : Nat) (0 : Nat), AV.ptr (4 : Nat) (1 : Nat), AV.ptr (4 : Nat) (2 : Nat),
              AV.ptr (4 : Nat) (3 : Nat), AV.ptr (4 : Nat) (4 : Nat), AV.ptr (4 : Nat) (5 : Nat),
              AV.ptr (4 : Nat) (6 : Nat)]),
        ((4 : Nat),
          AObj.cells (23 : Nat)
            [AV.int IntKind.i64 (x (0 : Nat)), AV.int IntKind.i64 (x (1 : Nat)), AV.int IntKind.i64 (x (2 : Nat)),
              AV.int IntKind.i64 (x (3 : Nat)), AV.int IntKind.i64 (x (4 : Nat)), AV.int IntKind.i64 (x (5 : Nat)),
              AV.int IntKind.i64 v]),
        ((3 : Nat), AObj.cells (105 : Nat) [AV.slice (2 : Nat) o' n' none, AV.int IntKind.i64 e', AV.bool true]),
        ((2 : Nat), AObj.opn (5 : Nat) (1 : Nat) cs),
        ((1 : Nat),
          AObj.cells (23 : Nat)
            [AV.int IntKind.i64 (0 : Int), AV.int IntKind.i64 (0 : Int), AV.int IntKind.i64 (0 : Int),
              AV.int IntKind.i64 (0 : Int), AV.int IntKind.i64 (0 : Int), AV.int IntKind.i64 (0 : Int),
              AV.int IntKind.i64 (0 : Int)]),
        ((0 : Nat), AObj.ro cs)] }))))
def pr6_scr : Plan := .z
theorem pr6_vc (bz x : Nat → Int) (o n : Nat) (e v : Int) (o' n' : Nat) (e' : Int) (cs : List AV) (N : NS) (Q : QS) (K : Unit) : (wpP (XCu bz o n e v o' n' e' cs) (symC Try.prog (bodyOf Try.prog 47) []) 1 (loopAt Try.prog 47 0) 0 (rndS [2, 4, 5, 17, 18, 19] N Q) (ptS x o n e cs 6).1 (ptS x o n e cs 6).2 pr6_scr) = pr6_VC bz x o n e v o' n' e' cs N Q K := by kernel_rfl
def pr7_VC (bz x : Nat → Int) (o n : Nat) (e v : Int) (o' n' : Nat) (e' : Int) (cs : List AV) (N : NS) (Q : QS) (K : Unit) : Prop :=
  Q (Exit.exit (0 : Nat)) (38 : Nat)
  [some (AV.ptr (1 : Nat) (0 : Nat)), some (AV.ptr (3 : Nat) (0 : Nat)), some (AV.ptr (4 : Nat) (0 : Nat)),
    some (AV.slice (5 : Nat) (0 : Nat) (7 : Nat) (some (7 : Nat))), some (AV.int IntKind.i64 (7 : Int)),
    some (AV.int IntKind.i64 (7 : Int))]
  { nx := (6 : Nat),
    m :=
      [((5 : Nat),
          AObj.cells (95 : Nat)
            [AV.ptr (4 : Nat) (0 : Nat), AV.ptr (4 : Nat) (1 : Nat), AV.ptr (4 : Nat) (2 : Nat),
              AV.ptr (4 : Nat) (3 : Nat), AV.ptr (4 : Nat) (4 : Nat), AV.ptr (4 : Nat) (5 : Nat),
              AV.ptr (4 : Nat) (6 : Nat)]),
        ((4 : Nat),
          AObj.cells (23 : Nat)
            [AV.int IntKind.i64 (x (0 : Nat)), AV.int IntKind.i64 (x (1 : Nat)), AV.int IntKind.i64 (x (2 : Nat)),
              AV.int IntKind.i64 (x (3 : Nat)), AV.int IntKind.i64 (x (4 : Nat)), AV.int IntKind.i64 (x (5 : Nat)),
              AV.int IntKind.i64 (x (6 : Nat))]),
        ((3 : Nat), AObj.cells (105 : Nat) [AV.slice (2 : Nat) o n none, AV.int IntKind.i64 e, AV.bool true]),
        ((2 : Nat), AObj.opn (5 : Nat) (1 : Nat) cs),
        ((1 : Nat),
          AObj.cells (23 : Nat)
            [AV.int IntKind.i64 (0 : Int), AV.int IntKind.i64 (0 : Int), AV.int IntKind.i64 (0 : Int),
              AV.int IntKind.i64 (0 : Int), AV.int IntKind.i64 (0 : Int), AV.int IntKind.i64 (0 : Int),
              AV.int IntKind.i64 (0 : Int)]),
        ((0 : Nat), AObj.ro cs)] }
def pr7_scr : Plan := .z
theorem pr7_vc (bz x : Nat → Int) (o n : Nat) (e v : Int) (o' n' : Nat) (e' : Int) (cs : List AV) (N : NS) (Q : QS) (K : Unit) : (wpP (XCu bz o n e v o' n' e' cs) (symC Try.prog (bodyOf Try.prog 47) []) 1 (loopAt Try.prog 47 0) 0 (rndS [2, 4, 5, 17, 18, 19] N Q) (ptS x o n e cs 7).1 (ptS x o n e cs 7).2 pr7_scr) = pr7_VC bz x o n e v o' n' e' cs N Q K := by kernel_rfl
end Go.Proofs.Ytnfelncgeihihaa.V
namespace Go.Proofs.Ytnfelncgeihihaa.V
open Go Go.Proofs
set_option maxRecDepth 100000
set_option linter.unusedSimpArgs false
set_option linter.unusedVariables false
def purTp : Pur := [(27, check2F), (28, length2F), (74, may2F)]
theorem purTp_ok : PurOk Try.prog purTp := PurOk.cons (tr_of_good good_spot2 rfl) <| PurOk.cons (tr_of_good good_spot2 rfl) <| PurOk.cons (tr_of_good good_spot2 rfl) PurOk.nil
def okTp : List Nat := [83]
theorem okTp_ok : okFunsX Try.prog okTp = true := by kernel_rfl
noncomputable def XTp : Cx := cxP Try.prog purTp okTp
theorem XTp_ok : CxOk (cxP Try.prog purTp okTp) := cxP_ok mixed purTp_ok okTp_ok
end Go.Proofs.Ytnfelncgeihihaa.V
namespace Go.Proofs.Ytnfelncgeihihaa.V
open Go Go.Proofs
set_option maxRecDepth 100000
set_option maxHeartbeats 4000000
set_option linter.unusedSimpArgs false
set_option linter.unusedVariables false
theorem rtS_wl {bz : Nat → Int} {cs : List AV} {n : Nat} (hb : Byt cs bz) (hn : n = cs.length) (h1 : n ≤ 1000) :
    WL Try.prog 1 (loopAt Try.prog 53 0) (fun e fr σ => e = .exit 0 ∧ fr = (rtS (rx bz n) (rq bz n 7).o (rq bz n 7).n (rq bz n 7).e cs 7).1 ∧ σ = (rtS (rx bz n) (rq bz n 7).o (rq bz n 7).n (rq bz n 7).e cs 7).2) (rtS (rx bz n) (rq bz n 0).o (rq bz n 0).n (rq bz n 0).e cs 0).1 (rtS (rx bz n) (rq bz n 0).o (rq bz n 0).n (rq bz n 0).e cs 0).2 := by
  have ok : ∀ i, i < 7 → nuOk bz cs (rq bz n i).o (rq bz n i).n (rq bz n i).e (nu bz (rq bz n i)).1 (rq bz n (i + 1)).o (rq bz n (i + 1)).n (rq bz n (i + 1)).e := fun i hi => ⟨hb, (rq_inv hb hn i).1, by have := (rq_inv hb hn i).2; omega, rfl⟩
  have wm : ∀ i, IntKind.i64.wrap (mi (nu bz (rq bz n i)).1) = rx bz n i := fun i => by
    have := rx_bd hb hn i
    exact wrap_in (n := rx bz n i) (by omega) (by omega)
  have fit : ∀ j, FitsS 1 [(0, 0), (1, 1), (3, 3), (4, 4), (5, 5)] [2, 4, 5, 6] 45 [some (.ptr 1 0), some (.ptr 4 0), some (.ptr 5 0), some (.int .i64 (j : Nat))] (rtS (rx bz n) (rq bz n j).o (rq bz n j).n (rq bz n j).e cs j).2 (rtS (rx bz n) (rq bz n j).o (rq bz n j).n (rq bz n j).e cs j).1 (rtS (rx bz n) (rq bz n j).o (rq bz n j).n (rq bz n j).e cs j).2 := fun j =>
    ⟨rfl, ⟨.inr ⟨hb.1, rfl⟩, ⟨rfl, .inr ⟨rfl, rfl⟩⟩, ⟨rfl, rfl, .inr ⟨hb.1, rfl⟩⟩, ⟨rfl, .inl rfl⟩, ⟨rfl, .inr ⟨rfl, rfl⟩⟩, trivial⟩, rfl, ⟨rfl, rfl, rfl, rfl, trivial⟩⟩
  have key := loop_famX (P := Try.prog) (n0 := 1) (c := loopAt Try.prog 53 0) (orc := purO []) (qt := []) (fuel := 20) (b := 0) (sy := symC Try.prog (bodyOf Try.prog 53) []) (by kernel_rfl) [2, 4, 5, 6] (ι := {i : Nat // i ≤ 7}) (fun i => withT 81 (rfTr bz (rq bz n i.1).o (rq bz n i.1).n (rq bz n i.1).e (nu bz (rq bz n i.1)).1 (rq bz n (i.1 + 1)).o (rq bz n (i.1 + 1)).n (rq bz n (i.1 + 1)).e cs) (purT [])) (fun i => XRr_ok bz (rq bz n i.1).o (rq bz n i.1).n (rq bz n i.1).e (nu bz (rq bz n i.1)).1 (rq bz n (i.1 + 1)).o (rq bz n (i.1 + 1)).n (rq bz n (i.1 + 1)).e cs) (fun i => rtS (rx bz n) (rq bz n i.1).o (rq bz n i.1).n (rq bz n i.1).e cs i.1) (fun i => 7 - i.1) (fun e fr σ => e = .exit 0 ∧ fr = (rtS (rx bz n) (rq bz n 7).o (rq bz n 7).n (rq bz n 7).e cs 7).1 ∧ σ = (rtS (rx bz n) (rq bz n 7).o (rq bz n 7).n (rq bz n 7).e cs 7).2)
    (fun i => match i.1 with | 0 => rr0_scr | 1 => rr1_scr | 2 => rr2_scr | 3 => rr3_scr | 4 => rr4_scr | 5 => rr5_scr | 6 => rr6_scr | _ => rr7_scr)
    (fun i N Q => match i.1 with
      | 0 => rr0_VC bz (rx bz n) (rq bz n 0).o (rq bz n 0).n (rq bz n 0).e (nu bz (rq bz n 0)).1 (rq bz n (0 + 1)).o (rq bz n (0 + 1)).n (rq bz n (0 + 1)).e cs N Q ()
      | 1 => rr1_VC bz (rx bz n) (rq bz n 1).o (rq bz n 1).n (rq bz n 1).e (nu bz (rq bz n 1)).1 (rq bz n (1 + 1)).o (rq bz n (1 + 1)).n (rq bz n (1 + 1)).e cs N Q ()
      | 2 => rr2_VC bz (rx bz n) (rq bz n 2).o (rq bz n 2).n (rq bz n 2).e (nu bz (rq bz n 2)).1 (rq bz n (2 + 1)).o (rq bz n (2 + 1)).n (rq bz n (2 + 1)).e cs N Q ()
      | 3 => rr3_VC bz (rx bz n) (rq bz n 3).o (rq bz n 3).n (rq bz n 3).e (nu bz (rq bz n 3)).1 (rq bz n (3 + 1)).o (rq bz n (3 + 1)).n (rq bz n (3 + 1)).e cs N Q ()
      | 4 => rr4_VC bz (rx bz n) (rq bz n 4).o (rq bz n 4).n (rq bz n 4).e (nu bz (rq bz n 4)).1 (rq bz n (4 + 1)).o (rq bz n (4 + 1)).n (rq bz n (4 + 1)).e cs N Q ()
      | 5 => rr5_VC bz (rx bz n) (rq bz n 5).o (rq bz n 5).n (rq bz n 5).e (nu bz (rq bz n 5)).1 (rq bz n (5 + 1)).o (rq bz n (5 + 1)).n (rq bz n (5 + 1)).e cs N Q ()
      | 6 => rr6_VC bz (rx bz n) (rq bz n 6).o (rq bz n 6).n (rq bz n 6).e (nu bz (rq bz n 6)).1 (rq bz n (6 + 1)).o (rq bz n (6 + 1)).n (rq bz n (6 + 1)).e cs N Q ()
      | _ => rr7_VC bz (rx bz n) (rq bz n 7).o (rq bz n 7).n (rq bz n 7).e (nu bz (rq bz n 7)).1 (rq bz n (7 + 1)).o (rq bz n (7 + 1)).n (rq bz n (7 + 1)).e cs N Q ())
    ?_ ?_ ⟨0, Nat.zero_le _⟩
  · exact key
  · rintro ⟨i, hi⟩ N Q
    match i, hi with
    | 0, _ => exact rr0_vc bz (rx bz n) (rq bz n 0).o (rq bz n 0).n (rq bz n 0).e (nu bz (rq bz n 0)).1 (rq bz n (0 + 1)).o (rq bz n (0 + 1)).n (rq bz n (0 + 1)).e cs N Q ()
    | 1, _ => exact rr1_vc bz (rx bz n) (rq bz n 1).o (rq bz n 1).n (rq bz n 1).e (nu bz (rq bz n 1)).1 (rq bz n (1 + 1)).o (rq bz n (1 + 1)).n (rq bz n (1 + 1)).e cs N Q ()
    | 2, _ => exact rr2_vc bz (rx bz n) (rq bz n 2).o (rq bz n 2).n (rq bz n 2).e (nu bz (rq bz n 2)).1 (rq bz n (2 + 1)).o (rq bz n (2 + 1)).n (rq bz n (2 + 1)).e cs N Q ()
    | 3, _ => exact rr3_vc bz (rx bz n) (rq bz n 3).o (rq bz n 3).n (rq bz n 3).e (nu bz (rq bz n 3)).1 (rq bz n (3 + 1)).o (rq bz n (3 + 1)).n (rq bz n (3 + 1)).e cs N Q ()
    | 4, _ => exact rr4_vc bz (rx bz n) (rq bz n 4).o (rq bz n 4).n (rq bz n 4).e (nu bz (rq bz n 4)).1 (rq bz n (4 + 1)).o (rq bz n (4 + 1)).n (rq bz n (4 + 1)).e cs N Q ()
    | 5, _ => exact rr5_vc bz (rx bz n) (rq bz n 5).o (rq bz n 5).n (rq bz n 5).e (nu bz (rq bz n 5)).1 (rq bz n (5 + 1)).o (rq bz n (5 + 1)).n (rq bz n (5 + 1)).e cs N Q ()
    | 6, _ => exact rr6_vc bz (rx bz n) (rq bz n 6).o (rq bz n 6).n (rq bz n 6).e (nu bz (rq bz n 6)).1 (rq bz n (6 + 1)).o (rq bz n (6 + 1)).n (rq bz n (6 + 1)).e cs N Q ()
    | 7, _ => exact rr7_vc bz (rx bz n) (rq bz n 7).o (rq bz n 7).n (rq bz n 7).e (nu bz (rq bz n 7)).1 (rq bz n (7 + 1)).o (rq bz n (7 + 1)).n (rq bz n (7 + 1)).e cs N Q ()
    | i + 8, h => exact absurd h (by omega)
  · rintro ⟨i, hi⟩
    match i, hi with
    | 0, _ => exact ⟨rfl, rfl, rfl, ok 0 (by omega), ⟨1, by omega⟩, [(0, 0), (1, 1), (3, 3), (4, 4), (5, 5)], (show 7 - 1 < 7 - 0 by omega), by have e := wm 0; unfold mi at e; rw [e]; exact fit 1⟩
    | 1, _ => exact ⟨rfl, rfl, rfl, ok 1 (by omega), ⟨2, by omega⟩, [(0, 0), (1, 1), (3, 3), (4, 4), (5, 5)], (show 7 - 2 < 7 - 1 by omega), by have e := wm 1; unfold mi at e; rw [e]; exact fit 2⟩
    | 2, _ => exact ⟨rfl, rfl, rfl, ok 2 (by omega), ⟨3, by omega⟩, [(0, 0), (1, 1), (3, 3), (4, 4), (5, 5)], (show 7 - 3 < 7 - 2 by omega), by have e := wm 2; unfold mi at e; rw [e]; exact fit 3⟩
    | 3, _ => exact ⟨rfl, rfl, rfl, ok 3 (by omega), ⟨4, by omega⟩, [(0, 0), (1, 1), (3, 3), (4, 4), (5, 5)], (show 7 - 4 < 7 - 3 by omega), by have e := wm 3; unfold mi at e; rw [e]; exact fit 4⟩
    | 4, _ => exact ⟨rfl, rfl, rfl, ok 4 (by omega), ⟨5, by omega⟩, [(0, 0), (1, 1), (3, 3), (4, 4), (5, 5)], (show 7 - 5 < 7 - 4 by omega), by have e := wm 4; unfold mi at e; rw [e]; exact fit 5⟩
    | 5, _ => exact ⟨rfl, rfl, rfl, ok 5 (by omega), ⟨6, by omega⟩, [(0, 0), (1, 1), (3, 3), (4, 4), (5, 5)], (show 7 - 6 < 7 - 5 by omega), by have e := wm 5; unfold mi at e; rw [e]; exact fit 6⟩
    | 6, _ => exact ⟨rfl, rfl, rfl, ok 6 (by omega), ⟨7, by omega⟩, [(0, 0), (1, 1), (3, 3), (4, 4), (5, 5)], (show 7 - 7 < 7 - 6 by omega), by have e := wm 6; unfold mi at e; rw [e]; exact fit 7⟩
    | 7, _ => exact ⟨[(0, 0), (1, 1), (3, 3), (4, 4), (5, 5)], _, _, fit 7, rfl, rfl, rfl⟩
    | i + 8, h => exact absurd h (by omega)
def LRq (bz x : Nat → Int) (n o7 n7 : Nat) (e7 : Int) (cs : List AV) : LTr := fun n0 fr σ s K => need (n0 = 1) ∧ need (Fits 1 [(0, 0), (1, 1), (3, 3), (4, 4), (5, 5)] fr σ (rtS x 0 n 0 cs 0).1 (rtS x 0 n 0 cs 0).2) ∧ need (Byt cs bz ∧ n = cs.length ∧ n ≤ 1000 ∧ x = rx bz n ∧ o7 = (rq bz n 7).o ∧ n7 = (rq bz n 7).n ∧ e7 = (rq bz n 7).e) ∧ K (.exit 0) (rtS x o7 n7 e7 cs 7).1 (rtS x o7 n7 e7 cs 7).2 s
theorem LRq_ok (bz x : Nat → Int) (n o7 n7 : Nat) (e7 : Int) (cs : List AV) : LOk Try.prog (loopAt Try.prog 53 0) (LRq bz x n o7 n7 e7 cs) := by
  rintro n0 fr σ s Q ⟨h0, hf, ⟨hb, h1, h2, h3, h4, h5, h6⟩, hq⟩
  cases (h0 : n0 = 1)
  subst h3 h4 h5 h6
  intro E a w hE hs
  refine (WL.less (rtS_wl hb h1 h2) ?_) E a w hE (Fits.refines hf E hE a w hs)
  rintro e fr σ ⟨rfl, rfl, rfl⟩
  exact ⟨_, _, fun E _ a w h => h, s, hq⟩
theorem LRq_loops : loopsOf (bodyOf Try.prog 53) 0 = [(0, loopAt Try.prog 53 0)] := by kernel_rfl
theorem ptS_wl {bz : Nat → Int} {cs : List AV} {n : Nat} (hb : Byt cs bz) (hn : n = cs.length) (h1 : n ≤ 1000) :
    WL Try.prog 1 (loopAt Try.prog 47 0) (fun e fr σ => e = .exit 0 ∧ fr = (ptS (cx bz n) (cq bz n 7).o (cq bz n 7).n (cq bz n 7).e cs 7).1 ∧ σ = (ptS (cx bz n) (cq bz n 7).o (cq bz n 7).n (cq bz n 7).e cs 7).2) (ptS (cx bz n) (cq bz n 0).o (cq bz n 0).n (cq bz n 0).e cs 0).1 (ptS (cx bz n) (cq bz n 0).o (cq bz n 0).n (cq bz n 0).e cs 0).2 := by
  have ok : ∀ i, i < 7 → cuOk bz cs (cq bz n i).o (cq bz n i).n (cq bz n i).e (cu bz (cq bz n i)).1 (cq bz n (i + 1)).o (cq bz n (i + 1)).n (cq bz n (i + 1)).e := fun i hi => ⟨hb, (cq_inv hb hn i).1, by have := (cq_inv hb hn i).2; omega, rfl⟩
  have fit : ∀ j, FitsS 1 [(0, 0), (1, 1), (2, 2), (3, 3), (4, 4), (5, 5)] [2, 4, 5, 17, 18, 19] 38 [some (.ptr 1 0), some (.ptr 3 0), some (.ptr 4 0), some (.slice 5 0 7 (some 7)), some (.int .i64 7), some (.int .i64 (j : Nat))] (ptS (cx bz n) (cq bz n j).o (cq bz n j).n (cq bz n j).e cs j).2 (ptS (cx bz n) (cq bz n j).o (cq bz n j).n (cq bz n j).e cs j).1 (ptS (cx bz n) (cq bz n j).o (cq bz n j).n (cq bz n j).e cs j).2 := fun j =>
    ⟨rfl, ⟨.inr ⟨hb.1, rfl⟩, ⟨rfl, .inr ⟨rfl, rfl⟩⟩, ⟨rfl, rfl, .inr ⟨hb.1, rfl⟩⟩, ⟨rfl, .inl rfl⟩, ⟨rfl, .inr ⟨rfl, rfl⟩⟩, ⟨rfl, .inl rfl⟩, trivial⟩, rfl, ⟨rfl, rfl, rfl, rfl, rfl, rfl, trivial⟩⟩
  have key := loop_famX (P := Try.prog) (n0 := 1) (c := loopAt Try.prog 47 0) (orc := purO []) (qt := []) (fuel := 20) (b := 0) (sy := symC Try.prog (bodyOf Try.prog 47) []) (by kernel_rfl) [2, 4, 5, 17, 18, 19] (ι := {i : Nat // i ≤ 7}) (fun i => withT 77 (cuTr bz (cq bz n i.1).o (cq bz n i.1).n (cq bz n i.1).e (cu bz (cq bz n i.1)).1 (cq bz n (i.1 + 1)).o (cq bz n (i.1 + 1)).n (cq bz n (i.1 + 1)).e cs) (purT [])) (fun i => XCu_ok bz (cq bz n i.1).o (cq bz n i.1).n (cq bz n i.1).e (cu bz (cq bz n i.1)).1 (cq bz n (i.1 + 1)).o (cq bz n (i.1 + 1)).n (cq bz n (i.1 + 1)).e cs) (fun i => ptS (cx bz n) (cq bz n i.1).o (cq bz n i.1).n (cq bz n i.1).e cs i.1) (fun i => 7 - i.1) (fun e fr σ => e = .exit 0 ∧ fr = (ptS (cx bz n) (cq bz n 7).o (cq bz n 7).n (cq bz n 7).e cs 7).1 ∧ σ = (ptS (cx bz n) (cq bz n 7).o (cq bz n 7).n (cq bz n 7).e cs 7).2)
    (fun i => match i.1 with | 0 => pr0_scr | 1 => pr1_scr | 2 => pr2_scr | 3 => pr3_scr | 4 => pr4_scr | 5 => pr5_scr | 6 => pr6_scr | _ => pr7_scr)
    (fun i N Q => match i.1 with
      | 0 => pr0_VC bz (cx bz n) (cq bz n 0).o (cq bz n 0).n (cq bz n 0).e (cu bz (cq bz n 0)).1 (cq bz n (0 + 1)).o (cq bz n (0 + 1)).n (cq bz n (0 + 1)).e cs N Q ()
      | 1 => pr1_VC bz (cx bz n) (cq bz n 1).o (cq bz n 1).n (cq bz n 1).e (cu bz (cq bz n 1)).1 (cq bz n (1 + 1)).o (cq bz n (1 + 1)).n (cq bz n (1 + 1)).e cs N Q ()
      | 2 => pr2_VC bz (cx bz n) (cq bz n 2).o (cq bz n 2).n (cq bz n 2).e (cu bz (cq bz n 2)).1 (cq bz n (2 + 1)).o (cq bz n (2 + 1)).n (cq bz n (2 + 1)).e cs N Q ()
      | 3 => pr3_VC bz (cx bz n) (cq bz n 3).o (cq bz n 3).n (cq bz n 3).e (cu bz (cq bz n 3)).1 (cq bz n (3 + 1)).o (cq bz n (3 + 1)).n (cq bz n (3 + 1)).e cs N Q ()
      | 4 => pr4_VC bz (cx bz n) (cq bz n 4).o (cq bz n 4).n (cq bz n 4).e (cu bz (cq bz n 4)).1 (cq bz n (4 + 1)).o (cq bz n (4 + 1)).n (cq bz n (4 + 1)).e cs N Q ()
      | 5 => pr5_VC bz (cx bz n) (cq bz n 5).o (cq bz n 5).n (cq bz n 5).e (cu bz (cq bz n 5)).1 (cq bz n (5 + 1)).o (cq bz n (5 + 1)).n (cq bz n (5 + 1)).e cs N Q ()
      | 6 => pr6_VC bz (cx bz n) (cq bz n 6).o (cq bz n 6).n (cq bz n 6).e (cu bz (cq bz n 6)).1 (cq bz n (6 + 1)).o (cq bz n (6 + 1)).n (cq bz n (6 + 1)).e cs N Q ()
      | _ => pr7_VC bz (cx bz n) (cq bz n 7).o (cq bz n 7).n (cq bz n 7).e (cu bz (cq bz n 7)).1 (cq bz n (7 + 1)).o (cq bz n (7 + 1)).n (cq bz n (7 + 1)).e cs N Q ())
    ?_ ?_ ⟨0, Nat.zero_le _⟩
  · exact key
  · rintro ⟨i, hi⟩ N Q
    match i, hi with
    | 0, _ => exact pr0_vc bz (cx bz n) (cq bz n 0).o (cq bz n 0).n (cq bz n 0).e (cu bz (cq bz n 0)).1 (cq bz n (0 + 1)).o (cq bz n (0 + 1)).n (cq bz n (0 + 1)).e cs N Q ()
    | 1, _ => exact pr1_vc bz (cx bz n) (cq bz n 1).o (cq bz n 1).n (cq bz n 1).e (cu bz (cq bz n 1)).1 (cq bz n (1 + 1)).o (cq bz n (1 + 1)).n (cq bz n (1 + 1)).e cs N Q ()
    | 2, _ => exact pr2_vc bz (cx bz n) (cq bz n 2).o (cq bz n 2).n (cq bz n 2).e (cu bz (cq bz n 2)).1 (cq bz n (2 + 1)).o (cq bz n (2 + 1)).n (cq bz n (2 + 1)).e cs N Q ()
    | 3, _ => exact pr3_vc bz (cx bz n) (cq bz n 3).o (cq bz n 3).n (cq bz n 3).e (cu bz (cq bz n 3)).1 (cq bz n (3 + 1)).o (cq bz n (3 + 1)).n (cq bz n (3 + 1)).e cs N Q ()
    | 4, _ => exact pr4_vc bz (cx bz n) (cq bz n 4).o (cq bz n 4).n (cq bz n 4).e (cu bz (cq bz n 4)).1 (cq bz n (4 + 1)).o (cq bz n (4 + 1)).n (cq bz n (4 + 1)).e cs N Q ()
    | 5, _ => exact pr5_vc bz (cx bz n) (cq bz n 5).o (cq bz n 5).n (cq bz n 5).e (cu bz (cq bz n 5)).1 (cq bz n (5 + 1)).o (cq bz n (5 + 1)).n (cq bz n (5 + 1)).e cs N Q ()
    | 6, _ => exact pr6_vc bz (cx bz n) (cq bz n 6).o (cq bz n 6).n (cq bz n 6).e (cu bz (cq bz n 6)).1 (cq bz n (6 + 1)).o (cq bz n (6 + 1)).n (cq bz n (6 + 1)).e cs N Q ()
    | 7, _ => exact pr7_vc bz (cx bz n) (cq bz n 7).o (cq bz n 7).n (cq bz n 7).e (cu bz (cq bz n 7)).1 (cq bz n (7 + 1)).o (cq bz n (7 + 1)).n (cq bz n (7 + 1)).e cs N Q ()
    | i + 8, h => exact absurd h (by omega)
  · rintro ⟨i, hi⟩
    match i, hi with
    | 0, _ => exact ⟨rfl, rfl, rfl, ok 0 (by omega), ⟨1, by omega⟩, [(0, 0), (1, 1), (2, 2), (3, 3), (4, 4), (5, 5)], (show 7 - 1 < 7 - 0 by omega), fit 1⟩
    | 1, _ => exact ⟨rfl, rfl, rfl, ok 1 (by omega), ⟨2, by omega⟩, [(0, 0), (1, 1), (2, 2), (3, 3), (4, 4), (5, 5)], (show 7 - 2 < 7 - 1 by omega), fit 2⟩
    | 2, _ => exact ⟨rfl, rfl, rfl, ok 2 (by omega), ⟨3, by omega⟩, [(0, 0), (1, 1), (2, 2), (3, 3), (4, 4), (5, 5)], (show 7 - 3 < 7 - 2 by omega), fit 3⟩
    | 3, _ => exact ⟨rfl, rfl, rfl, ok 3 (by omega), ⟨4, by omega⟩, [(0, 0), (1, 1), (2, 2), (3, 3), (4, 4), (5, 5)], (show 7 - 4 < 7 - 3 by omega), fit 4⟩
    | 4, _ => exact ⟨rfl, rfl, rfl, ok 4 (by omega), ⟨5, by omega⟩, [(0, 0), (1, 1), (2, 2), (3, 3), (4, 4), (5, 5)], (show 7 - 5 < 7 - 4 by omega), fit 5⟩
    | 5, _ => exact ⟨rfl, rfl, rfl, ok 5 (by omega), ⟨6, by omega⟩, [(0, 0), (1, 1), (2, 2), (3, 3), (4, 4), (5, 5)], (show 7 - 6 < 7 - 5 by omega), fit 6⟩
    | 6, _ => exact ⟨rfl, rfl, rfl, ok 6 (by omega), ⟨7, by omega⟩, [(0, 0), (1, 1), (2, 2), (3, 3), (4, 4), (5, 5)], (show 7 - 7 < 7 - 6 by omega), fit 7⟩
    | 7, _ => exact ⟨[(0, 0), (1, 1), (2, 2), (3, 3), (4, 4), (5, 5)], _, _, fit 7, rfl, rfl, rfl⟩
    | i + 8, h => exact absurd h (by omega)
def LPq (bz x : Nat → Int) (n o7 n7 : Nat) (e7 : Int) (cs : List AV) : LTr := fun n0 fr σ s K => need (n0 = 1) ∧ need (Fits 1 [(0, 0), (1, 1), (2, 2), (3, 3), (4, 4), (5, 5)] fr σ (ptS x 0 n 0 cs 0).1 (ptS x 0 n 0 cs 0).2) ∧ need (Byt cs bz ∧ n = cs.length ∧ n ≤ 1000 ∧ x = cx bz n ∧ o7 = (cq bz n 7).o ∧ n7 = (cq bz n 7).n ∧ e7 = (cq bz n 7).e) ∧ K (.exit 0) (ptS x o7 n7 e7 cs 7).1 (ptS x o7 n7 e7 cs 7).2 s
theorem LPq_ok (bz x : Nat → Int) (n o7 n7 : Nat) (e7 : Int) (cs : List AV) : LOk Try.prog (loopAt Try.prog 47 0) (LPq bz x n o7 n7 e7 cs) := by
  rintro n0 fr σ s Q ⟨h0, hf, ⟨hb, h1, h2, h3, h4, h5, h6⟩, hq⟩
  cases (h0 : n0 = 1)
  subst h3 h4 h5 h6
  intro E a w hE hs
  refine (WL.less (ptS_wl hb h1 h2) ?_) E a w hE (Fits.refines hf E hE a w hs)
  rintro e fr σ ⟨rfl, rfl, rfl⟩
  exact ⟨_, _, fun E _ a w h => h, s, hq⟩
theorem LPq_loops : loopsOf (bodyOf Try.prog 47) 0 = [(0, loopAt Try.prog 47 0)] := by kernel_rfl
theorem clone2_sc {n : Nat} {cs : List AV} (hn : 0 < n) (hc : n = cs.length) (hm : n ≤ 1000) :
    SC Try.prog 84 [.slice 0 0 n none] ⟨1, [(0, .ro cs)]⟩ (fun v τ => v = .slice 2 0 n none ∧ τ.get 2 = .opn 5 1 cs) := by
  refine sc_of_vcT XNu_ok (by kernel_rfl) (fun p _ L hL => by cases hL) (clS_vc n cs _) ?_
  have ht : List.take (n * 1) (List.drop 0 cs) = cs := by rw [Nat.mul_one, hc]; simp
  unfold clS_VC
  rw [ht]
  simp [hn, ← hc, AH.get, lookH]
  omega
def clone2Tr : Tr1 := fun xs σ s K => match xs with
  | [.slice b 0 n none] => match σ.get b with
    | .ro cs => need (0 < n ∧ n = cs.length ∧ n ≤ 1000 ∧ b < σ.nx ∧ pfs cs = true) ∧ K (.slice σ.nx 0 n none) (σ.push (.opn 5 1 cs)) s
    | _ => False
  | _ => False
theorem clone2Tr_ok : TrOk Try.prog 84 clone2Tr := by
  intro xs σ s K h
  unfold clone2Tr at h
  split at h
  · rename_i b n
    split at h
    · rename_i cs hb
      obtain ⟨⟨hn, hc, hm, hbx, hpf⟩, hk⟩ := h
      refine (SC.frameG (args0 := [.slice 0 0 n none]) (σ0 := ⟨1, [(0, .ro cs)]⟩) (σ := σ) (k := 2) (u := .slice σ.nx 0 n none) (fun i => if i = 0 then some b else none) (fun x => if x = b then some 0 else none) ?_ ?_ ?_ (by simp [renL, AV.ren]) hpf rfl (clone2_sc hn hc hm)).mono ?_
      · intro i hi
        have : i = 0 := by have : i < 1 := hi; omega
        subst this
        exact ⟨b, cs, rfl, hbx, by rw [hb]; rfl, rfl, hpf⟩
      · intro i
        by_cases e : i = 0
        · subst e; rfl
        · simp [AH.get, lookH, Ne.symm e, AObj.wr]
      · intro y c hy
        split at hy
        · rename_i e; subst e; cases hy; exact ⟨Nat.zero_lt_one, by simp⟩
        · cases hy
      · rintro v τ ⟨rfl, rfl⟩
        exact ⟨s, hk⟩
    · exact h.elim
  · exact h.elim
def okP1 : List Nat := [76, 78, 88]
theorem okP1_ok : okFunsX Try.prog okP1 = true := by kernel_rfl
noncomputable def XP1 (bz x : Nat → Int) (n o7 n7 : Nat) (e7 : Int) (cs : List AV) : Cx := ⟨Try.prog, inl Try.prog (purO purTb) (purTb.map (·.1)) 20 (withT 84 clone2Tr (purT purTb)) okP1 6, purO purTb, purTb.map (·.1), 20, lookL [(0, LPq bz x n o7 n7 e7 cs)]⟩
theorem XP1_ok (bz x : Nat → Int) (n o7 n7 : Nat) (e7 : Int) (cs : List AV) : CxOk (XP1 bz x n o7 n7 e7 cs) := ⟨inl_ok (purO_ok purTb_ok) mixed (withT_ok clone2Tr_ok (purT_ok purTb_ok)) okP1_ok 6, purO_ok purTb_ok, mixed⟩
def okR1 : List Nat := [80, 82]
theorem okR1_ok : okFunsX Try.prog okR1 = true := by kernel_rfl
noncomputable def XR1 (bz x : Nat → Int) (n o7 n7 : Nat) (e7 : Int) (cs : List AV) : Cx := ⟨Try.prog, inl Try.prog (purO purTp) (purTp.map (·.1)) 20 (purT purTp) okR1 6, purO purTp, purTp.map (·.1), 20, lookL [(0, LRq bz x n o7 n7 e7 cs)]⟩
theorem XR1_ok (bz x : Nat → Int) (n o7 n7 : Nat) (e7 : Int) (cs : List AV) : CxOk (XR1 bz x n o7 n7 e7 cs) := ⟨inl_ok (purO_ok purTp_ok) mixed (purT_ok purTp_ok) okR1_ok 6, purO_ok purTp_ok, mixed⟩
end Go.Proofs.Ytnfelncgeihihaa.V
namespace Go.Proofs.Ytnfelncgeihihaa.V
open Go Go.Proofs
set_option maxRecDepth 100000
set_option linter.unusedVariables false
def prd_VC (bz x : Nat → Int) (n o7 n7 : Nat) (e7 : Int) (cs : List AV) (K : AV → AH → Prop) : Prop :=
  need ((0 : Nat) < n ∧ n = List.length cs ∧ n ≤ (1000 : Nat) ∧ (0 : Nat) < (2 : Nat) ∧ pfs cs = true) ∧
  (need ((1 : Nat) = (1 : Nat)) ∧
  (need (Fits (1 : Nat)
  [((0 : Nat), (0 : Nat)), ((1 : Nat), (1 : Nat)), ((2 : Nat), (2 : Nat)), ((3 : Nat), (3 : Nat)),
    ((4 : Nat), (4 : Nat)), ((5 : Nat), (5 : Nat))]
  { n := (38 : Nat),
    l :=
      [((19 : Nat), AV.int IntKind.i64 (0 : Int)), ((18 : Nat), AV.int IntKind.i64 (7 : Int)),
        ((17 : Nat), AV.slice (5 : Nat) (0 : Nat) (7 : Nat) (some (7 : Nat))), ((16 : Nat), AV.ptr (4 : Nat) (6 : Nat)),
        ((15 : Nat), AV.ptr (4 : Nat) (5 : Nat)), ((14 : Nat), AV.ptr (4 : Nat) (4 : Nat)),
        ((13 : Nat), AV.ptr (4 : Nat) (3 : Nat)), ((12 : Nat), AV.ptr (4 : Nat) (2 : Nat)),
        ((11 : Nat), AV.ptr (4 : Nat) (1 : Nat)), ((10 : Nat), AV.ptr (4 : Nat) (0 : Nat)),
        ((5 : Nat), AV.ptr (4 : Nat) (0 : Nat)), ((4 : Nat), AV.ptr (3 : Nat) (0 : Nat)),
        ((9 : Nat), AV.ptr (3 : Nat) (0 : Nat)), ((8 : Nat), AV.slice (0 : Nat) (0 : Nat) n none),
        ((3 : Nat), AV.int IntKind.i64 (0 : Int)), ((2 : Nat), AV.ptr (1 : Nat) (0 : Nat)),
        ((0 : Nat), AV.slice (0 : Nat) (0 : Nat) n none)] }
  { nx := (6 : Nat),
    m :=
      [((5 : Nat),
          AObj.cells (95 : Nat)
            [AV.ptr (4 : Nat) (0 : Nat), AV.ptr (4 : Nat) (1 : Nat), AV.ptr (4 : Nat) (2 : Nat),
              AV.ptr (4 : Nat) (3 : Nat), AV.ptr (4 : Nat) (4 : Nat), AV.ptr (4 : Nat) (5 : Nat),
              AV.ptr (4 : Nat) (6 : Nat)]),
        ((4 : Nat),
          AObj.cells (23 : Nat)
            [AV.int IntKind.i64 (0 : Int), AV.int IntKind.i64 (0 : Int), AV.int IntKind.i64 (0 : Int),
              AV.int IntKind.i64 (0 : Int), AV.int IntKind.i64 (0 : Int), AV.int IntKind.i64 (0 : Int),
              AV.int IntKind.i64 (0 : Int)]),
        ((3 : Nat),
          AObj.cells (105 : Nat) [AV.slice (2 : Nat) (0 : Nat) n none, AV.int IntKind.i64 (0 : Int), AV.bool true]),
        ((2 : Nat), AObj.opn (5 : Nat) (1 : Nat) cs),
        ((1 : Nat),
          AObj.cells (23 : Nat)
            [AV.int IntKind.i64 (0 : Int), AV.int IntKind.i64 (0 : Int), AV.int IntKind.i64 (0 : Int),
              AV.int IntKind.i64 (0 : Int), AV.int IntKind.i64 (0 : Int), AV.int IntKind.i64 (0 : Int),
              AV.int IntKind.i64 (0 : Int)]),
        ((0 : Nat), AObj.ro cs)] }
  { n := (38 : Nat),
    l :=
      [((2 : Nat), AV.ptr (1 : Nat) (0 : Nat)), ((4 : Nat), AV.ptr (3 : Nat) (0 : Nat)),
        ((5 : Nat), AV.ptr (4 : Nat) (0 : Nat)), ((17 : Nat), AV.slice (5 : Nat) (0 : Nat) (7 : Nat) (some (7 : Nat))),
        ((18 : Nat), AV.int IntKind.i64 (7 : Int)), ((19 : Nat), AV.int IntKind.i64 (0 : Int))] }
  { nx := (6 : Nat),
    m :=
      [((5 : Nat),
          AObj.cells (95 : Nat)
            [AV.ptr (4 : Nat) (0 : Nat), AV.ptr (4 : Nat) (1 : Nat), AV.ptr (4 : Nat) (2 : Nat),
              AV.ptr (4 : Nat) (3 : Nat), AV.ptr (4 : Nat) (4 : Nat), AV.ptr (4 : Nat) (5 : Nat),
              AV.ptr (4 : Nat) (6 : Nat)]),
        ((4 : Nat),
          AObj.cells (23 : Nat)
            [AV.int IntKind.i64 (0 : Int), AV.int IntKind.i64 (0 : Int), AV.int IntKind.i64 (0 : Int),
              AV.int IntKind.i64 (0 : Int), AV.int IntKind.i64 (0 : Int), AV.int IntKind.i64 (0 : Int),
              AV.int IntKind.i64 (0 : Int)]),
        ((3 : Nat),
          AObj.cells (105 : Nat) [AV.slice (2 : Nat) (0 : Nat) n none, AV.int IntKind.i64 (0 : Int), AV.bool true]),
        ((2 : Nat), AObj.opn (5 : Nat) (1 : Nat) cs),
        ((1 : Nat),
          AObj.cells (23 : Nat)
            [AV.int IntKind.i64 (0 : Int), AV.int IntKind.i64 (0 : Int), AV.int IntKind.i64 (0 : Int),
              AV.int IntKind.i64 (0 : Int), AV.int IntKind.i64 (0 : Int), AV.int IntKind.i64 (0 : Int),
              AV.int IntKind.i64 (0 : Int)]),
        ((0 : Nat), AObj.ro cs)] }) ∧
  (need (Byt cs bz ∧
  n = List.length cs ∧
    n ≤ (1000 : Nat) ∧
      x = cx bz n ∧ o7 = (cq bz n (7 : Nat)).1 ∧ n7 = (cq bz n (7 : Nat)).2 ∧ e7 = (cq bz n (7 : Nat)).3) ∧
  (((!decide (e7 = (0 : Int))) = true →
    (!!decide (e7 = (0 : Int))) = false ∧
    ((!!decide (e7 = (0 : Int))) = false ∧
    ((!!decide (e7 = (0 : Int))) = false ∧
    ((!decide (e7 = (0 : Int))) = true ∧
    (K
  (AV.tup
    [AV.agg
        [AV.int IntKind.i64 (0 : Int), AV.int IntKind.i64 (0 : Int), AV.int IntKind.i64 (0 : Int),
          AV.int IntKind.i64 (0 : Int), AV.int IntKind.i64 (0 : Int), AV.int IntKind.i64 (0 : Int),
          AV.int IntKind.i64 (0 : Int)],
      AV.int IntKind.i64 (4 : Int)])
  { nx := (6 : Nat),
    m :=
      [((5 : Nat),
          AObj.cells (95 : Nat)
            [AV.ptr (4 : Nat) (0 : Nat), AV.ptr (4 : Nat) (1 : Nat), AV.ptr (4 : Nat) (2 : Nat),
              AV.ptr (4 : Nat) (3 : Nat), AV.ptr (4 : Nat) (4 : Nat), AV.ptr (4 : Nat) (5 : Nat),
              AV.ptr (4 : Nat) (6 : Nat)]),
        ((4 : Nat),
          AObj.cells (23 : Nat)
            [AV.int IntKind.i64 (x (0 : Nat)), AV.int IntKind.i64 (x (1 : Nat)), AV.int IntKind.i64 (x (2 : Nat)),
              AV.int IntKind.i64 (x (3 : Nat)), AV.int IntKind.i64 (x (4 : Nat)), AV.int IntKind.i64 (x (5 : Nat)),
              AV.int IntKind.i64 (x (6 : Nat))]),
        ((3 : Nat), AObj.cells (105 : Nat) [AV.slice (2 : Nat) o7 n7 none, AV.int IntKind.i64 e7, AV.bool true]),
        ((2 : Nat), AObj.opn (5 : Nat) (1 : Nat) cs),
        ((1 : Nat),
          AObj.cells (23 : Nat)
            [AV.int IntKind.i64 (0 : Int), AV.int IntKind.i64 (0 : Int), AV.int IntKind.i64 (0 : Int),
              AV.int IntKind.i64 (0 : Int), AV.int IntKind.i64 (0 : Int), AV.int IntKind.i64 (0 : Int),
              AV.int IntKind.i64 (0 : Int)]),
        ((0 : Nat), AObj.ro cs)] }))))) ∧
  ((!decide (e7 = (0 : Int))) = false →
    ((decide ((↑n7 : Int) > (0 : Int))) = true →
      K
  (AV.tup
    [AV.agg
        [AV.int IntKind.i64 (0 : Int), AV.int IntKind.i64 (0 : Int), AV.int IntKind.i64 (0 : Int),
          AV.int IntKind.i64 (0 : Int), AV.int IntKind.i64 (0 : Int), AV.int IntKind.i64 (0 : Int),
          AV.int IntKind.i64 (0 : Int)],
      AV.int IntKind.i64 (4 : Int)])
  { nx := (6 : Nat),
    m :=
      [((5 : Nat),
          AObj.cells (95 : Nat)
            [AV.ptr (4 : Nat) (0 : Nat), AV.ptr (4 : Nat) (1 : Nat), AV.ptr (4 : Nat) (2 : Nat),
              AV.ptr (4 : Nat) (3 : Nat), AV.ptr (4 : Nat) (4 : Nat), AV.ptr (4 : Nat) (5 : Nat),
              AV.ptr (4 : Nat) (6 : Nat)]),
        ((4 : Nat),
          AObj.cells (23 : Nat)
            [AV.int IntKind.i64 (x (0 : Nat)), AV.int IntKind.i64 (x (1 : Nat)), AV.int IntKind.i64 (x (2 : Nat)),
              AV.int IntKind.i64 (x (3 : Nat)), AV.int IntKind.i64 (x (4 : Nat)), AV.int IntKind.i64 (x (5 : Nat)),
              AV.int IntKind.i64 (x (6 : Nat))]),
        ((3 : Nat), AObj.cells (105 : Nat) [AV.slice (2 : Nat) o7 n7 none, AV.int IntKind.i64 (4 : Int), AV.bool true]),
        ((2 : Nat), AObj.opn (5 : Nat) (1 : Nat) cs),
        ((1 : Nat),
          AObj.cells (23 : Nat)
            [AV.int IntKind.i64 (0 : Int), AV.int IntKind.i64 (0 : Int), AV.int IntKind.i64 (0 : Int),
              AV.int IntKind.i64 (0 : Int), AV.int IntKind.i64 (0 : Int), AV.int IntKind.i64 (0 : Int),
              AV.int IntKind.i64 (0 : Int)]),
        ((0 : Nat), AObj.ro cs)] }) ∧
    ((decide ((↑n7 : Int) > (0 : Int))) = false →
      (!!decide (e7 = (0 : Int))) = true ∧
      ((!!decide (e7 = (0 : Int))) = true ∧
      ((!!decide (e7 = (0 : Int))) = true ∧
      ((!decide (e7 = (0 : Int))) = false ∧
      (((!decide
    ((if
          okF (x (0 : Nat)) (x (1 : Nat)) (x (2 : Nat)) (x (3 : Nat)) (x (4 : Nat)) (x (5 : Nat)) (x (6 : Nat)) =
            true then
        (0 : Int)
      else (2 : Int)) =
      (0 : Int))) = true →
        K
  (AV.tup
    [AV.agg
        [AV.int IntKind.i64 (0 : Int), AV.int IntKind.i64 (0 : Int), AV.int IntKind.i64 (0 : Int),
          AV.int IntKind.i64 (0 : Int), AV.int IntKind.i64 (0 : Int), AV.int IntKind.i64 (0 : Int),
          AV.int IntKind.i64 (0 : Int)],
      AV.int IntKind.i64 (4 : Int)])
  { nx := (6 : Nat),
    m :=
      [((5 : Nat),
          AObj.cells (95 : Nat)
            [AV.ptr (4 : Nat) (0 : Nat), AV.ptr (4 : Nat) (1 : Nat), AV.ptr (4 : Nat) (2 : Nat),
              AV.ptr (4 : Nat) (3 : Nat), AV.ptr (4 : Nat) (4 : Nat), AV.ptr (4 : Nat) (5 : Nat),
              AV.ptr (4 : Nat) (6 : Nat)]),
        ((4 : Nat),
          AObj.cells (23 : Nat)
            [AV.int IntKind.i64 (x (0 : Nat)), AV.int IntKind.i64 (x (1 : Nat)), AV.int IntKind.i64 (x (2 : Nat)),
              AV.int IntKind.i64 (x (3 : Nat)), AV.int IntKind.i64 (x (4 : Nat)), AV.int IntKind.i64 (x (5 : Nat)),
              AV.int IntKind.i64 (x (6 : Nat))]),
        ((3 : Nat), AObj.cells (105 : Nat) [AV.slice (2 : Nat) o7 n7 none, AV.int IntKind.i64 e7, AV.bool true]),
        ((2 : Nat), AObj.opn (5 : Nat) (1 : Nat) cs),
        ((1 : Nat),
          AObj.cells (23 : Nat)
            [AV.int IntKind.i64 (0 : Int), AV.int IntKind.i64 (0 : Int), AV.int IntKind.i64 (0 : Int),
              AV.int IntKind.i64 (0 : Int), AV.int IntKind.i64 (0 : Int), AV.int IntKind.i64 (0 : Int),
              AV.int IntKind.i64 (0 : Int)]),
        ((0 : Nat), AObj.ro cs)] }) ∧
      ((!decide
    ((if
          okF (x (0 : Nat)) (x (1 : Nat)) (x (2 : Nat)) (x (3 : Nat)) (x (4 : Nat)) (x (5 : Nat)) (x (6 : Nat)) =
            true then
        (0 : Int)
      else (2 : Int)) =
      (0 : Int))) = false →
        K
  (AV.tup
    [AV.agg
        [AV.int IntKind.i64 (x (0 : Nat)), AV.int IntKind.i64 (x (1 : Nat)), AV.int IntKind.i64 (x (2 : Nat)),
          AV.int IntKind.i64 (x (3 : Nat)), AV.int IntKind.i64 (x (4 : Nat)), AV.int IntKind.i64 (x (5 : Nat)),
          AV.int IntKind.i64 (x (6 : Nat))],
      AV.int IntKind.i64 (0 : Int)])
  { nx := (6 : Nat),
    m :=
      [((5 : Nat),
          AObj.cells (95 : Nat)
            [AV.ptr (4 : Nat) (0 : Nat), AV.ptr (4 : Nat) (1 : Nat), AV.ptr (4 : Nat) (2 : Nat),
              AV.ptr (4 : Nat) (3 : Nat), AV.ptr (4 : Nat) (4 : Nat), AV.ptr (4 : Nat) (5 : Nat),
              AV.ptr (4 : Nat) (6 : Nat)]),
        ((4 : Nat),
          AObj.cells (23 : Nat)
            [AV.int IntKind.i64 (x (0 : Nat)), AV.int IntKind.i64 (x (1 : Nat)), AV.int IntKind.i64 (x (2 : Nat)),
              AV.int IntKind.i64 (x (3 : Nat)), AV.int IntKind.i64 (x (4 : Nat)), AV.int IntKind.i64 (x (5 : Nat)),
              AV.int IntKind.i64 (x (6 : Nat))]),
        ((3 : Nat), AObj.cells (105 : Nat) [AV.slice (2 : Nat) o7 n7 none, AV.int IntKind.i64 e7, AV.bool true]),
        ((2 : Nat), AObj.opn (5 : Nat) (1 : Nat) cs),
        ((1 : Nat),
          AObj.cells (23 : Nat)
            [AV.int IntKind.i64 (x (0 : Nat)), AV.int IntKind.i64 (x (1 : Nat)), AV.int IntKind.i64 (x (2 : Nat)),
              AV.int IntKind.i64 (x (3 : Nat)), AV.int IntKind.i64 (x (4 : Nat)), AV.int IntKind.i64 (x (5 : Nat)),
              AV.int IntKind.i64 (x (6 : Nat))]),
        ((0 : Nat), AObj.ro cs)] })))))))))))
def prd_scr : Plan := .k (.k (.k (.k (.k (.k (.k (.b (.f (.f (.f (.t (.z))))) (.b (.z) (.t (.t (.t (.f (.b (.z) (.z))))))))))))))
theorem prd_vc (bz x : Nat → Int) (n o7 n7 : Nat) (e7 : Int) (cs : List AV) (K : AV → AH → Prop) : (funP (XP1 bz x n o7 n7 e7 cs) 47 [.slice 0 0 n none] ⟨1, [(0, .ro cs)]⟩ prd_scr (fun v σ _ => K v σ)) = prd_VC bz x n o7 n7 e7 cs K := by kernel_rfl
def rrd_VC (bz x : Nat → Int) (n c o7 n7 : Nat) (e7 : Int) (cs : List AV) (K : AV → AH → Prop) : Prop :=
  (decide ((0 : Nat) < n)) = true ∧
  ((decide ((0 : Nat) + n * (1 : Nat) ≤ List.length cs)) = true ∧
  ((decide (n * (1 : Nat) ≤ (140737488355328 : Nat))) = true ∧
  ((decide (n ≤ (140737488355328 : Nat))) = true ∧
  (need ((1 : Nat) = (1 : Nat)) ∧
  (need (Fits (1 : Nat)
  [((0 : Nat), (0 : Nat)), ((1 : Nat), (1 : Nat)), ((3 : Nat), (3 : Nat)), ((4 : Nat), (4 : Nat)),
    ((5 : Nat), (5 : Nat))]
  { n := (45 : Nat),
    l :=
      [((6 : Nat), AV.int IntKind.i64 (0 : Int)), ((5 : Nat), AV.ptr (5 : Nat) (0 : Nat)),
        ((4 : Nat), AV.ptr (4 : Nat) (0 : Nat)), ((9 : Nat), AV.ptr (4 : Nat) (0 : Nat)),
        ((8 : Nat), AV.slice (0 : Nat) (0 : Nat) n (some c)), ((3 : Nat), AV.int IntKind.i64 (0 : Int)),
        ((2 : Nat), AV.ptr (1 : Nat) (0 : Nat)), ((0 : Nat), AV.slice (0 : Nat) (0 : Nat) n (some c))] }
  { nx := (6 : Nat),
    m :=
      [((5 : Nat),
          AObj.cells (90 : Nat)
            [AV.int IntKind.i64 (0 : Int), AV.int IntKind.i64 (0 : Int), AV.int IntKind.i64 (0 : Int),
              AV.int IntKind.i64 (0 : Int), AV.int IntKind.i64 (0 : Int), AV.int IntKind.i64 (0 : Int),
              AV.int IntKind.i64 (0 : Int)]),
        ((4 : Nat), AObj.cells (108 : Nat) [AV.slice (3 : Nat) (0 : Nat) n none, AV.int IntKind.i64 (0 : Int)]),
        ((3 : Nat), AObj.opn (5 : Nat) (1 : Nat) (List.take (n * (1 : Nat)) (List.drop (0 : Nat) cs))),
        ((2 : Nat), AObj.cells (5 : Nat) []),
        ((1 : Nat),
          AObj.cells (23 : Nat)
            [AV.int IntKind.i64 (0 : Int), AV.int IntKind.i64 (0 : Int), AV.int IntKind.i64 (0 : Int),
              AV.int IntKind.i64 (0 : Int), AV.int IntKind.i64 (0 : Int), AV.int IntKind.i64 (0 : Int),
              AV.int IntKind.i64 (0 : Int)]),
        ((0 : Nat), AObj.ro cs)] }
  { n := (45 : Nat),
    l :=
      [((2 : Nat), AV.ptr (1 : Nat) (0 : Nat)), ((4 : Nat), AV.ptr (4 : Nat) (0 : Nat)),
        ((5 : Nat), AV.ptr (5 : Nat) (0 : Nat)), ((6 : Nat), AV.int IntKind.i64 (0 : Int))] }
  { nx := (6 : Nat),
    m :=
      [((5 : Nat),
          AObj.cells (90 : Nat)
            [AV.int IntKind.i64 (0 : Int), AV.int IntKind.i64 (0 : Int), AV.int IntKind.i64 (0 : Int),
              AV.int IntKind.i64 (0 : Int), AV.int IntKind.i64 (0 : Int), AV.int IntKind.i64 (0 : Int),
              AV.int IntKind.i64 (0 : Int)]),
        ((4 : Nat), AObj.cells (108 : Nat) [AV.slice (3 : Nat) (0 : Nat) n none, AV.int IntKind.i64 (0 : Int)]),
        ((3 : Nat), AObj.opn (5 : Nat) (1 : Nat) cs),
        ((1 : Nat),
          AObj.cells (23 : Nat)
            [AV.int IntKind.i64 (0 : Int), AV.int IntKind.i64 (0 : Int), AV.int IntKind.i64 (0 : Int),
              AV.int IntKind.i64 (0 : Int), AV.int IntKind.i64 (0 : Int), AV.int IntKind.i64 (0 : Int),
              AV.int IntKind.i64 (0 : Int)]),
        ((0 : Nat), AObj.ro cs)] }) ∧
  (need (Byt cs bz ∧
  n = List.length cs ∧
    n ≤ (1000 : Nat) ∧
      x = rx bz n ∧ o7 = (rq bz n (7 : Nat)).1 ∧ n7 = (rq bz n (7 : Nat)).2 ∧ e7 = (rq bz n (7 : Nat)).3) ∧
  (((decide (e7 = (0 : Int))) = true →
    (decide (e7 = (0 : Int))) = true ∧
    ((decide (e7 = (0 : Int))) = true ∧
    ((decide (e7 = (0 : Int))) = true ∧
    ((decide (e7 = (0 : Int))) = true ∧
    ((decide (e7 = (0 : Int))) = true ∧
    ((decide (e7 = (0 : Int))) = true ∧
    (((decide ((↑n7 : Int) > (0 : Int))) = true →
      K
  (AV.tup
    [AV.agg
        [AV.int IntKind.i64 (0 : Int), AV.int IntKind.i64 (0 : Int), AV.int IntKind.i64 (0 : Int),
          AV.int IntKind.i64 (0 : Int), AV.int IntKind.i64 (0 : Int), AV.int IntKind.i64 (0 : Int),
          AV.int IntKind.i64 (0 : Int)],
      AV.int IntKind.i64 (4 : Int)])
  { nx := (7 : Nat),
    m :=
      [((6 : Nat),
          AObj.cells (23 : Nat)
            [AV.int IntKind.i64 (x (0 : Nat)), AV.int IntKind.i64 (x (1 : Nat)), AV.int IntKind.i64 (x (2 : Nat)),
              AV.int IntKind.i64 (x (3 : Nat)), AV.int IntKind.i64 (x (4 : Nat)), AV.int IntKind.i64 (x (5 : Nat)),
              AV.int IntKind.i64 (x (6 : Nat))]),
        ((5 : Nat),
          AObj.cells (90 : Nat)
            [AV.int IntKind.i64 (x (0 : Nat)), AV.int IntKind.i64 (x (1 : Nat)), AV.int IntKind.i64 (x (2 : Nat)),
              AV.int IntKind.i64 (x (3 : Nat)), AV.int IntKind.i64 (x (4 : Nat)), AV.int IntKind.i64 (x (5 : Nat)),
              AV.int IntKind.i64 (x (6 : Nat))]),
        ((4 : Nat), AObj.cells (108 : Nat) [AV.slice (3 : Nat) o7 n7 none, AV.int IntKind.i64 (4 : Int)]),
        ((3 : Nat), AObj.opn (5 : Nat) (1 : Nat) cs),
        ((1 : Nat),
          AObj.cells (23 : Nat)
            [AV.int IntKind.i64 (0 : Int), AV.int IntKind.i64 (0 : Int), AV.int IntKind.i64 (0 : Int),
              AV.int IntKind.i64 (0 : Int), AV.int IntKind.i64 (0 : Int), AV.int IntKind.i64 (0 : Int),
              AV.int IntKind.i64 (0 : Int)]),
        ((0 : Nat), AObj.ro cs)] }) ∧
    ((decide ((↑n7 : Int) > (0 : Int))) = false →
      (!!decide (e7 = (0 : Int))) = true ∧
      ((!!decide (e7 = (0 : Int))) = true ∧
      ((!!decide (e7 = (0 : Int))) = true ∧
      ((!decide (e7 = (0 : Int))) = false ∧
      (((!decide
    ((if
          okF (x (0 : Nat)) (x (1 : Nat)) (x (2 : Nat)) (x (3 : Nat)) (x (4 : Nat)) (x (5 : Nat)) (x (6 : Nat)) =
            true then
        (0 : Int)
      else (2 : Int)) =
      (0 : Int))) = true →
        K
  (AV.tup
    [AV.agg
        [AV.int IntKind.i64 (0 : Int), AV.int IntKind.i64 (0 : Int), AV.int IntKind.i64 (0 : Int),
          AV.int IntKind.i64 (0 : Int), AV.int IntKind.i64 (0 : Int), AV.int IntKind.i64 (0 : Int),
          AV.int IntKind.i64 (0 : Int)],
      AV.int IntKind.i64 (4 : Int)])
  { nx := (7 : Nat),
    m :=
      [((6 : Nat),
          AObj.cells (23 : Nat)
            [AV.int IntKind.i64 (x (0 : Nat)), AV.int IntKind.i64 (x (1 : Nat)), AV.int IntKind.i64 (x (2 : Nat)),
              AV.int IntKind.i64 (x (3 : Nat)), AV.int IntKind.i64 (x (4 : Nat)), AV.int IntKind.i64 (x (5 : Nat)),
              AV.int IntKind.i64 (x (6 : Nat))]),
        ((5 : Nat),
          AObj.cells (90 : Nat)
            [AV.int IntKind.i64 (x (0 : Nat)), AV.int IntKind.i64 (x (1 : Nat)), AV.int IntKind.i64 (x (2 : Nat)),
              AV.int IntKind.i64 (x (3 : Nat)), AV.int IntKind.i64 (x (4 : Nat)), AV.int IntKind.i64 (x (5 : Nat)),
              AV.int IntKind.i64 (x (6 : Nat))]),
        ((4 : Nat), AObj.cells (108 : Nat) [AV.slice (3 : Nat) o7 n7 none, AV.int IntKind.i64 e7]),
        ((3 : Nat), AObj.opn (5 : Nat) (1 : Nat) cs),
        ((1 : Nat),
          AObj.cells (23 : Nat)
            [AV.int IntKind.i64 (0 : Int), AV.int IntKind.i64 (0 : Int), AV.int IntKind.i64 (0 : Int),
              AV.int IntKind.i64 (0 : Int), AV.int IntKind.i64 (0 : Int), AV.int IntKind.i64 (0 : Int),
              AV.int IntKind.i64 (0 : Int)]),
        ((0 : Nat), AObj.ro cs)] }) ∧
      ((!decide
    ((if
          okF (x (0 : Nat)) (x (1 : Nat)) (x (2 : Nat)) (x (3 : Nat)) (x (4 : Nat)) (x (5 : Nat)) (x (6 : Nat)) =
            true then
        (0 : Int)
      else (2 : Int)) =
      (0 : Int))) = false →
        K
  (AV.tup
    [AV.agg
        [AV.int IntKind.i64 (x (0 : Nat)), AV.int IntKind.i64 (x (1 : Nat)), AV.int IntKind.i64 (x (2 : Nat)),
          AV.int IntKind.i64 (x (3 : Nat)), AV.int IntKind.i64 (x (4 : Nat)), AV.int IntKind.i64 (x (5 : Nat)),
          AV.int IntKind.i64 (x (6 : Nat))],
      AV.int IntKind.i64 (0 : Int)])
  { nx := (7 : Nat),
    m :=
      [((6 : Nat),
          AObj.cells (23 : Nat)
            [AV.int IntKind.i64 (x (0 : Nat)), AV.int IntKind.i64 (x (1 : Nat)), AV.int IntKind.i64 (x (2 : Nat)),
              AV.int IntKind.i64 (x (3 : Nat)), AV.int IntKind.i64 (x (4 : Nat)), AV.int IntKind.i64 (x (5 : Nat)),
              AV.int IntKind.i64 (x (6 : Nat))]),
        ((5 : Nat),
          AObj.cells (90 : Nat)
            [AV.int IntKind.i64 (x (0 : Nat)), AV.int IntKind.i64 (x (1 : Nat)), AV.int IntKind.i64 (x (2 : Nat)),
              AV.int IntKind.i64 (x (3 : Nat)), AV.int IntKind.i64 (x (4 : Nat)), AV.int IntKind.i64 (x (5 : Nat)),
              AV.int IntKind.i64 (x (6 : Nat))]),
        ((4 : Nat), AObj.cells (108 : Nat) [AV.slice (3 : Nat) o7 n7 none, AV.int IntKind.i64 e7]),
        ((3 : Nat), AObj.opn (5 : Nat) (1 : Nat) cs),
        ((1 : Nat),
          AObj.cells (23 : Nat)
            [AV.int IntKind.i64 (x (0 : Nat)), AV.int IntKind.i64 (x (1 : Nat)), AV.int IntKind.i64 (x (2 : Nat)),
              AV.int IntKind.i64 (x (3 : Nat)), AV.int IntKind.i64 (x (4 : Nat)), AV.int IntKind.i64 (x (5 : Nat)),
              AV.int IntKind.i64 (x (6 : Nat))]),
        ((0 : Nat), AObj.ro cs)] }))))))))))))) ∧
  ((decide (e7 = (0 : Int))) = false →
    (decide (e7 = (0 : Int))) = false ∧
    ((decide (e7 = (0 : Int))) = false ∧
    ((decide (e7 = (0 : Int))) = false ∧
    ((decide (e7 = (0 : Int))) = false ∧
    ((decide (e7 = (0 : Int))) = false ∧
    ((decide (e7 = (0 : Int))) = false ∧
    ((!!decide (e7 = (0 : Int))) = false ∧
    ((!!decide (e7 = (0 : Int))) = false ∧
    ((!!decide (e7 = (0 : Int))) = false ∧
    ((!decide (e7 = (0 : Int))) = true ∧
    (K
  (AV.tup
    [AV.agg
        [AV.int IntKind.i64 (0 : Int), AV.int IntKind.i64 (0 : Int), AV.int IntKind.i64 (0 : Int),
          AV.int IntKind.i64 (0 : Int), AV.int IntKind.i64 (0 : Int), AV.int IntKind.i64 (0 : Int),
          AV.int IntKind.i64 (0 : Int)],
      AV.int IntKind.i64 (4 : Int)])
  { nx := (7 : Nat),
    m :=
      [((6 : Nat),
          AObj.cells (23 : Nat)
            [AV.int IntKind.i64 (x (0 : Nat)), AV.int IntKind.i64 (x (1 : Nat)), AV.int IntKind.i64 (x (2 : Nat)),
              AV.int IntKind.i64 (x (3 : Nat)), AV.int IntKind.i64 (x (4 : Nat)), AV.int IntKind.i64 (x (5 : Nat)),
              AV.int IntKind.i64 (x (6 : Nat))]),
        ((5 : Nat),
          AObj.cells (90 : Nat)
            [AV.int IntKind.i64 (x (0 : Nat)), AV.int IntKind.i64 (x (1 : Nat)), AV.int IntKind.i64 (x (2 : Nat)),
              AV.int IntKind.i64 (x (3 : Nat)), AV.int IntKind.i64 (x (4 : Nat)), AV.int IntKind.i64 (x (5 : Nat)),
              AV.int IntKind.i64 (x (6 : Nat))]),
        ((4 : Nat), AObj.cells (108 : Nat) [AV.slice (3 : Nat) o7 n7 none, AV.int IntKind.i64 e7]),
        ((3 : Nat), AObj.opn (5 : Nat) (1 : Nat) cs),
        ((1 : Nat),
          AObj.cells (23 : Nat)
            [AV.int IntKind.i64 (0 : Int), AV.int IntKind.i64 (0 : Int), AV.int IntKind.i64 (0 : Int),
              AV.int IntKind.i64 (0 : Int), AV.int IntKind.i64 (0 : Int), AV.int IntKind.i64 (0 : Int),
              AV.int IntKind.i64 (0 : Int)]),
        ((0 : Nat), AObj.ro cs)] }))))))))))))))))))
def rrd_scr : Plan := .t (.t (.t (.t (.b (.t (.t (.t (.t (.t (.t (.b (.z) (.t (.t (.t (.f (.b (.z) (.z))))))))))))) (.f (.f (.f (.f (.f (.f (.k (.f (.f (.f (.t (.z))))))))))))))))
theorem rrd_vc (bz x : Nat → Int) (n c o7 n7 : Nat) (e7 : Int) (cs : List AV) (K : AV → AH → Prop) : (funP (XR1 bz x n o7 n7 e7 cs) 53 [.slice 0 0 n (some c)] ⟨1, [(0, .ro cs)]⟩ rrd_scr (fun v σ _ => K v σ)) = rrd_VC bz x n c o7 n7 e7 cs K := by kernel_rfl
end Go.Proofs.Ytnfelncgeihihaa.V
namespace Go.Proofs.Ytnfelncgeihihaa.V
open Go Go.Proofs
set_option maxRecDepth 100000
set_option maxHeartbeats 4000000
set_option linter.unusedSimpArgs false
set_option linter.unusedVariables false
def rdV (ok : Bool) (x : Nat → Int) : AV := .tup [.agg [.int .i64 (if ok = true then x 0 else 0), .int .i64 (if ok = true then x 1 else 0), .int .i64 (if ok = true then x 2 else 0), .int .i64 (if ok = true then x 3 else 0), .int .i64 (if ok = true then x 4 else 0), .int .i64 (if ok = true then x 5 else 0), .int .i64 (if ok = true then x 6 else 0)], .int .i64 (if ok = true then 0 else 4)]
theorem rdV_no {ok : Bool} {x : Nat → Int} (h : ok = false) : rdV ok x = .tup [.agg [.int .i64 0, .int .i64 0, .int .i64 0, .int .i64 0, .int .i64 0, .int .i64 0, .int .i64 0], .int .i64 4] := by subst h; rfl
theorem rdV_yes {ok : Bool} {x : Nat → Int} (h : ok = true) : rdV ok x = .tup [.agg [.int .i64 (x 0), .int .i64 (x 1), .int .i64 (x 2), .int .i64 (x 3), .int .i64 (x 4), .int .i64 (x 5), .int .i64 (x 6)], .int .i64 0] := by subst h; rfl
theorem prd_sc {bz : Nat → Int} {cs : List AV} {n : Nat} (hb : Byt cs bz) (hn : n = cs.length) (h0 : 0 < n) (h1 : n ≤ 1000) : SC Try.prog 47 [.slice 0 0 n none] ⟨1, [(0, .ro cs)]⟩
    (fun v τ => v = rdV (rdG (cq bz n 7).n (cq bz n 7).e (cx bz n)) (cx bz n) ∧ τ.get 2 = .opn 5 1 cs) := by
  refine sc_of_vcT (XP1_ok bz (cx bz n) n (cq bz n 7).o (cq bz n 7).n (cq bz n 7).e cs) (by kernel_rfl) ?_ (prd_vc bz (cx bz n) n (cq bz n 7).o (cq bz n 7).n (cq bz n 7).e cs _) ?_
  · intro p hp' l hl
    rw [show (XP1 bz (cx bz n) n (cq bz n 7).o (cq bz n 7).n (cq bz n 7).e cs).P = Try.prog from rfl, LPq_loops] at hp'
    simp only [List.mem_cons, List.not_mem_nil, or_false] at hp'
    subst hp'
    have : l = LPq bz (cx bz n) n (cq bz n 7).o (cq bz n 7).n (cq bz n 7).e cs := (Option.some.inj hl).symm
    subst this
    exact LPq_ok _ _ _ _ _ _ _
  unfold prd_VC
  refine ⟨⟨h0, hn, h1, by omega, hb.1⟩, rfl, ⟨rfl, ⟨.inr ⟨hb.1, rfl⟩, ⟨rfl, .inr ⟨rfl, rfl⟩⟩, ⟨rfl, rfl, .inr ⟨hb.1, rfl⟩⟩, ⟨rfl, .inl rfl⟩, ⟨rfl, .inr ⟨rfl, rfl⟩⟩, ⟨rfl, .inl rfl⟩, trivial⟩, rfl, ⟨rfl, rfl, rfl, rfl, rfl, rfl, trivial⟩⟩, ⟨hb, hn, h1, rfl, rfl, rfl, rfl⟩, ?_⟩
  generalize cx bz n = x
  generalize (cq bz n 7).o = o7
  generalize (cq bz n 7).n = n7
  generalize (cq bz n 7).e = e7
  by_cases he : e7 = 0
  · by_cases hz : n7 = 0
    · by_cases hk : okF (x 0) (x 1) (x 2) (x 3) (x 4) (x 5) (x 6) = true
      · have q := rdV_yes (x := x) (ok := rdG n7 e7 x) (by simp [rdG, he, hz, hk])
        rw [q]; simp [he, hz, hk, AH.get, lookH]
      · have q := rdV_no (x := x) (ok := rdG n7 e7 x) (by simp [rdG, he, hz, hk])
        rw [q]; simp [he, hz, hk, AH.get, lookH]
    · have q := rdV_no (x := x) (ok := rdG n7 e7 x) (by simp [rdG, he, hz])
      rw [q]
      have hz' : 0 < n7 := by omega
      simp [he, hz, hz', AH.get, lookH]
  · have q := rdV_no (x := x) (ok := rdG n7 e7 x) (by simp [rdG, he])
    rw [q]; simp [he, AH.get, lookH]
theorem rrd_sc {bz : Nat → Int} {cs : List AV} {n : Nat} (c : Nat) (hb : Byt cs bz) (hn : n = cs.length) (h0 : 0 < n) (h1 : n ≤ 1000) : SC Try.prog 53 [.slice 0 0 n (some c)] ⟨1, [(0, .ro cs)]⟩
    (fun v τ => v = rdV (rdG (rq bz n 7).n (rq bz n 7).e (rx bz n)) (rx bz n) ∧ τ.get 3 = .opn 5 1 cs) := by
  refine sc_of_vcT (XR1_ok bz (rx bz n) n (rq bz n 7).o (rq bz n 7).n (rq bz n 7).e cs) (by kernel_rfl) ?_ (rrd_vc bz (rx bz n) n c (rq bz n 7).o (rq bz n 7).n (rq bz n 7).e cs _) ?_
  · intro p hp' l hl
    rw [show (XR1 bz (rx bz n) n (rq bz n 7).o (rq bz n 7).n (rq bz n 7).e cs).P = Try.prog from rfl, LRq_loops] at hp'
    simp only [List.mem_cons, List.not_mem_nil, or_false] at hp'
    subst hp'
    have : l = LRq bz (rx bz n) n (rq bz n 7).o (rq bz n 7).n (rq bz n 7).e cs := (Option.some.inj hl).symm
    subst this
    exact LRq_ok _ _ _ _ _ _ _
  have ht : List.take (n * 1) (List.drop 0 cs) = cs := by rw [Nat.mul_one, hn]; simp
  unfold rrd_VC
  rw [ht]
  refine ⟨by simp [h0], by simp [hn], by simp; omega, by simp; omega, rfl, ⟨rfl, ⟨.inr ⟨hb.1, rfl⟩, ⟨rfl, .inr ⟨rfl, rfl⟩⟩, ⟨rfl, rfl, .inr ⟨hb.1, rfl⟩⟩, ⟨rfl, .inl rfl⟩, ⟨rfl, .inr ⟨rfl, rfl⟩⟩, trivial⟩, rfl, ⟨rfl, rfl, rfl, rfl, trivial⟩⟩, ⟨hb, hn, h1, rfl, rfl, rfl, rfl⟩, ?_⟩
  generalize rx bz n = x
  generalize (rq bz n 7).o = o7
  generalize (rq bz n 7).n = n7
  generalize (rq bz n 7).e = e7
  by_cases he : e7 = 0
  · by_cases hz : n7 = 0
    · by_cases hk : okF (x 0) (x 1) (x 2) (x 3) (x 4) (x 5) (x 6) = true
      · have q := rdV_yes (x := x) (ok := rdG n7 e7 x) (by simp [rdG, he, hz, hk])
        rw [q]; simp [he, hz, hk, AH.get, lookH]
      · have q := rdV_no (x := x) (ok := rdG n7 e7 x) (by simp [rdG, he, hz, hk])
        rw [q]; simp [he, hz, hk, AH.get, lookH]
    · have q := rdV_no (x := x) (ok := rdG n7 e7 x) (by simp [rdG, he, hz])
      rw [q]
      have hz' : 0 < n7 := by omega
      simp [he, hz, hz', AH.get, lookH]
  · have q := rdV_no (x := x) (ok := rdG n7 e7 x) (by simp [rdG, he])
    rw [q]; simp [he, AH.get, lookH]
/-- What is read of bytes, told once for both. -/
def gO (bz : Nat → Int) (n i : Nat) : Int := if rdG (rq bz n 7).n (rq bz n 7).e (rx bz n) = true then rx bz n i else 0
def gE (bz : Nat → Int) (n : Nat) : Int := if rdG (rq bz n 7).n (rq bz n 7).e (rx bz n) = true then 0 else 4
theorem rdV_same (bz : Nat → Int) (n : Nat) : rdV (rdG (cq bz n 7).n (cq bz n 7).e (cx bz n)) (cx bz n) = rdV (rdG (rq bz n 7).n (rq bz n 7).e (rx bz n)) (rx bz n) := by
  obtain ⟨h1, h2⟩ := read_same bz n
  rw [← h1]
  generalize rdG (rq bz n 7).n (rq bz n 7).e (rx bz n) = b at h2 ⊢
  cases b with
  | false => rfl
  | true =>
    have h2 := h2 rfl
    rw [rdV_yes rfl, rdV_yes rfl, h2 0 (by omega), h2 1 (by omega), h2 2 (by omega), h2 3 (by omega), h2 4 (by omega), h2 5 (by omega), h2 6 (by omega)]
def gV (g : Nat → Int) (e : Int) : AV := .tup [.agg [.int .i64 (g 0), .int .i64 (g 1), .int .i64 (g 2), .int .i64 (g 3), .int .i64 (g 4), .int .i64 (g 5), .int .i64 (g 6)], .int .i64 e]
def rdPre (bz g : Nat → Int) (er : Int) (n : Nat) (cs : List AV) : Prop := 0 < n ∧ n ≤ 1000 ∧ n = cs.length ∧ Byt cs bz ∧ g = gO bz n ∧ er = gE bz n
def prTr (bz g : Nat → Int) (er : Int) (n : Nat) (cs : List AV) : Tr1 := fun xs σ s K => match xs with
  | [.slice b 0 m none] => match σ.get b with
    | .opn _ _ ds => need (m = n ∧ ds = cs ∧ b < σ.nx ∧ rdPre bz g er n cs) ∧ K (.tup [.agg [.int .i64 (g 0), .int .i64 (g 1), .int .i64 (g 2), .int .i64 (g 3), .int .i64 (g 4), .int .i64 (g 5), .int .i64 (g 6)], .int .i64 er]) (σ.push (.opn 5 1 cs)) s
    | _ => False
  | _ => False
def rrTr (bz g : Nat → Int) (er : Int) (n : Nat) (cs : List AV) : Tr1 := fun xs σ s K => match xs with
  | [.slice b 0 m (some c)] => match σ.get b with
    | .ro ds => need (m = n ∧ ds = cs ∧ b < σ.nx ∧ rdPre bz g er n cs) ∧ K (.tup [.agg [.int .i64 (g 0), .int .i64 (g 1), .int .i64 (g 2), .int .i64 (g 3), .int .i64 (g 4), .int .i64 (g 5), .int .i64 (g 6)], .int .i64 er]) (σ.push (.opn 5 1 cs)) s
    | _ => False
  | _ => False
theorem prTr_ok (bz g : Nat → Int) (er : Int) (n : Nat) (cs : List AV) : TrOk Try.prog 47 (prTr bz g er n cs) := by
  intro xs σ s K h
  unfold prTr at h
  split at h
  · rename_i b m
    split at h
    · rename_i e z ds hb
      obtain ⟨⟨rfl, rfl, hbx, h0, h1, hn, hB, rfl, rfl⟩, hq⟩ := h
      have key := prd_sc hB hn h0 h1
      rw [rdV_same] at key
      refine (SC.frameG (args0 := [.slice 0 0 m none]) (σ0 := ⟨1, [(0, .ro ds)]⟩) (σ := σ) (k := 2) (u := rdV (rdG (rq bz m 7).n (rq bz m 7).e (rx bz m)) (rx bz m)) (fun i => if i = 0 then some b else none) (fun x => if x = b then some 0 else none) ?_ ?_ ?_ (by simp [renL, AV.ren]) hB.1 rfl key).mono ?_
      · intro i hi
        have : i = 0 := by have : i < 1 := hi; omega
        subst this
        exact ⟨b, ds, rfl, hbx, by rw [hb]; rfl, rfl, hB.1⟩
      · intro i
        by_cases e : i = 0
        · subst e; rfl
        · simp [AH.get, lookH, Ne.symm e, AObj.wr]
      · intro y c hy
        split at hy
        · rename_i e; subst e; cases hy; exact ⟨Nat.zero_lt_one, by simp⟩
        · cases hy
      · rintro v τ ⟨rfl, rfl⟩
        exact ⟨s, hq⟩
    · exact h.elim
  · exact h.elim
theorem rrTr_ok (bz g : Nat → Int) (er : Int) (n : Nat) (cs : List AV) : TrOk Try.prog 53 (rrTr bz g er n cs) := by
  intro xs σ s K h
  unfold rrTr at h
  split at h
  · rename_i b m c
    split at h
    · rename_i ds hb
      obtain ⟨⟨rfl, rfl, hbx, h0, h1, hn, hB, rfl, rfl⟩, hq⟩ := h
      have key := rrd_sc c hB hn h0 h1
      refine (SC.frameG (args0 := [.slice 0 0 m (some c)]) (σ0 := ⟨1, [(0, .ro ds)]⟩) (σ := σ) (k := 3) (u := rdV (rdG (rq bz m 7).n (rq bz m 7).e (rx bz m)) (rx bz m)) (fun i => if i = 0 then some b else none) (fun x => if x = b then some 0 else none) ?_ ?_ ?_ (by simp [renL, AV.ren]) hB.1 rfl key).mono ?_
      · intro i hi
        have : i = 0 := by have : i < 1 := hi; omega
        subst this
        exact ⟨b, ds, rfl, hbx, by rw [hb]; rfl, rfl, hB.1⟩
      · intro i
        by_cases e : i = 0
        · subst e; rfl
        · simp [AH.get, lookH, Ne.symm e, AObj.wr]
      · intro y c hy
        split at hy
        · rename_i e; subst e; cases hy; exact ⟨Nat.zero_lt_one, by simp⟩
        · cases hy
      · rintro v τ ⟨rfl, rfl⟩
        exact ⟨s, hq⟩
    · exact h.elim
  · exact h.elim
/-- States of the loop that tells a screen's bytes, in the document. -/
def by0 (x : Nat → Int) : AF × AH := (⟨39, [(4, .slice 1 0 7 (some 7)), (5, .nilslice), (6, .int .i64 0)]⟩, ⟨2, [(1, .cells 3 (sC x 7))]⟩)
def byS (x : Nat → Int) (n : Nat) (cs : List AV) (i : Int) : AF × AH := (⟨39, [(4, .slice 1 0 7 (some 7)), (5, .slice 2 0 n none), (6, .int .i64 i)]⟩, ⟨3, [(2, .opn 5 1 cs), (1, .cells 3 (sC x 7))]⟩)
def okBr : List Nat := [79]
theorem okBr_ok : okFunsX Try.prog okBr = true := by kernel_rfl
noncomputable def XBr : Cx := cxK Try.prog [] okBr 3
theorem XBr_ok : CxOk (cxK Try.prog [] okBr 3) := cxK_ok mixed PurOk.nil okBr_ok
end Go.Proofs.Ytnfelncgeihihaa.V
