/- Printed by vc.py: what must hold for functions' ways (RgX). -/
import Derived.Test.YthmakddlhaeblaaDoorRgE
namespace Go.Proofs.YthmakddlhaeblaaDoor.V
open Go Go.Proofs
set_option maxRecDepth 100000
set_option linter.unusedVariables false
def rsR_VC (a b c d e f g h i r ix iy sp pc wz af bc de hl im : Int) (p q u v : Bool) (z x n : Int) (N : NS) (Q : QS) (K : Unit) : Prop :=
  ((decide (n < (128 : Int))) = true →
    ((!decide (IntKind.wrap IntKind.u8 (Int.tdiv (rfN x) (128 : Int)) = IntKind.wrap IntKind.u8 (Int.tdiv r (128 : Int)))) = true →
      Q Exit.ret (74 : Nat)
  [some (AV.int IntKind.u8 z), some (AV.ptr (0 : Nat) (0 : Nat)), some (AV.ptr (1 : Nat) (0 : Nat)),
    some (AV.int IntKind.i64 n)]
  { nx := (2 : Nat),
    m :=
      [((1 : Nat),
          AObj.cells (24 : Nat)
            [AV.int IntKind.u8 a, AV.int IntKind.u8 b, AV.int IntKind.u8 c, AV.int IntKind.u8 d, AV.int IntKind.u8 e,
              AV.int IntKind.u8 f, AV.int IntKind.u8 g, AV.int IntKind.u8 h, AV.int IntKind.u8 i,
              AV.int IntKind.u8 (rfN x), AV.int IntKind.u16 ix, AV.int IntKind.u16 iy, AV.int IntKind.u16 sp,
              AV.int IntKind.u16 pc, AV.int IntKind.u16 wz, AV.int IntKind.u16 af, AV.int IntKind.u16 bc,
              AV.int IntKind.u16 de, AV.int IntKind.u16 hl, AV.bool p, AV.bool q, AV.int IntKind.i64 im, AV.bool u,
              AV.bool v]),
        ((0 : Nat),
          AObj.cells (24 : Nat)
            [AV.int IntKind.u8 a, AV.int IntKind.u8 b, AV.int IntKind.u8 c, AV.int IntKind.u8 d, AV.int IntKind.u8 e,
              AV.int IntKind.u8 f, AV.int IntKind.u8 g, AV.int IntKind.u8 h, AV.int IntKind.u8 i, AV.int IntKind.u8 r,
              AV.int IntKind.u16 ix, AV.int IntKind.u16 iy, AV.int IntKind.u16 sp, AV.int IntKind.u16 pc,
              AV.int IntKind.u16 wz, AV.int IntKind.u16 af, AV.int IntKind.u16 bc, AV.int IntKind.u16 de,
              AV.int IntKind.u16 hl, AV.bool p, AV.bool q, AV.int IntKind.i64 im, AV.bool u, AV.bool v])] }) ∧
    ((!decide (IntKind.wrap IntKind.u8 (Int.tdiv (rfN x) (128 : Int)) = IntKind.wrap IntKind.u8 (Int.tdiv r (128 : Int)))) = false →
      N (74 : Nat)
  [some (AV.int IntKind.u8 z), some (AV.ptr (0 : Nat) (0 : Nat)), some (AV.ptr (1 : Nat) (0 : Nat)),
    some (AV.int IntKind.i64 (IntKind.wrap IntKind.i64 (n + (1 : Int))))]
  { nx := (2 : Nat),
    m :=
      [((1 : Nat),
          AObj.cells (24 : Nat)
            [AV.int IntKind.u8 a, AV.int IntKind.u8 b, AV.int IntKind.u8 c, AV.int IntKind.u8 d, AV.int IntKind.u8 e,
              AV.int IntKind.u8 f, AV.int IntKind.u8 g, AV.int IntKind.u8 h, AV.int IntKind.u8 i,
              AV.int IntKind.u8 (rfN x), AV.int IntKind.u16 ix, AV.int IntKind.u16 iy, AV.int IntKind.u16 sp,
              AV.int IntKind.u16 pc, AV.int IntKind.u16 wz, AV.int IntKind.u16 af, AV.int IntKind.u16 bc,
              AV.int IntKind.u16 de, AV.int IntKind.u16 hl, AV.bool p, AV.bool q, AV.int IntKind.i64 im, AV.bool u,
              AV.bool v]),
        ((0 : Nat),
          AObj.cells (24 : Nat)
            [AV.int IntKind.u8 a, AV.int IntKind.u8 b, AV.int IntKind.u8 c, AV.int IntKind.u8 d, AV.int IntKind.u8 e,
              AV.int IntKind.u8 f, AV.int IntKind.u8 g, AV.int IntKind.u8 h, AV.int IntKind.u8 i, AV.int IntKind.u8 r,
              AV.int IntKind.u16 ix, AV.int IntKind.u16 iy, AV.int IntKind.u16 sp, AV.int IntKind.u16 pc,
              AV.int IntKind.u16 wz, AV.int IntKind.u16 af, AV.int IntKind.u16 bc, AV.int IntKind.u16 de,
              AV.int IntKind.u16 hl, AV.bool p, AV.bool q, AV.int IntKind.i64 im, AV.bool u, AV.bool v])] })) ∧
  ((decide (n < (128 : Int))) = false →
    Q (Exit.exit (2 : Nat)) (74 : Nat)
  [some (AV.int IntKind.u8 z), some (AV.ptr (0 : Nat) (0 : Nat)), some (AV.ptr (1 : Nat) (0 : Nat)),
    some (AV.int IntKind.i64 n)]
  { nx := (2 : Nat),
    m :=
      [((1 : Nat),
          AObj.cells (24 : Nat)
            [AV.int IntKind.u8 a, AV.int IntKind.u8 b, AV.int IntKind.u8 c, AV.int IntKind.u8 d, AV.int IntKind.u8 e,
              AV.int IntKind.u8 f, AV.int IntKind.u8 g, AV.int IntKind.u8 h, AV.int IntKind.u8 i, AV.int IntKind.u8 x,
              AV.int IntKind.u16 ix, AV.int IntKind.u16 iy, AV.int IntKind.u16 sp, AV.int IntKind.u16 pc,
              AV.int IntKind.u16 wz, AV.int IntKind.u16 af, AV.int IntKind.u16 bc, AV.int IntKind.u16 de,
              AV.int IntKind.u16 hl, AV.bool p, AV.bool q, AV.int IntKind.i64 im, AV.bool u, AV.bool v]),
        ((0 : Nat),
          AObj.cells (24 : Nat)
            [AV.int IntKind.u8 a, AV.int IntKind.u8 b, AV.int IntKind.u8 c, AV.int IntKind.u8 d, AV.int IntKind.u8 e,
              AV.int IntKind.u8 f, AV.int IntKind.u8 g, AV.int IntKind.u8 h, AV.int IntKind.u8 i, AV.int IntKind.u8 r,
              AV.int IntKind.u16 ix, AV.int IntKind.u16 iy, AV.int IntKind.u16 sp, AV.int IntKind.u16 pc,
              AV.int IntKind.u16 wz, AV.int IntKind.u16 af, AV.int IntKind.u16 bc, AV.int IntKind.u16 de,
              AV.int IntKind.u16 hl, AV.bool p, AV.bool q, AV.int IntKind.i64 im, AV.bool u, AV.bool v])] })
def rsR_scr : Plan := .b (.b (.z) (.z)) (.z)
theorem rsR_vc (a b c d e f g h i r ix iy sp pc wz af bc de hl im : Int) (p q u v : Bool) (z x n : Int) (N : NS) (Q : QS) (K : Unit) : (wpP XR2 (symC Tryd.prog (bodyOf Tryd.prog 3) []) 0 (loopAt Tryd.prog 3 1) 0 (rndS [1, 2, 6, 7] N Q) (rsT a b c d e f g h i r ix iy sp pc wz af bc de hl im p q u v z x n).1 (rsT a b c d e f g h i r ix iy sp pc wz af bc de hl im p q u v z x n).2 rsR_scr) = rsR_VC a b c d e f g h i r ix iy sp pc wz af bc de hl im p q u v z x n N Q K := by kernel_rfl
def rs_VC (a b c d e f g h i r ix iy sp pc wz af bc de hl im : Int) (p q u v : Bool) (z : Int) (K : AV → Prop) : Prop :=
  ((!(hiN (prN a b) == a &&
    (loN (prN a b) == b &&
      (c == c &&
        (d == d &&
          (e == e &&
            (f == f &&
              (g == g &&
                (h == h &&
                  (i == i &&
                    (r == r &&
                      (ix == ix &&
                        (iy == iy &&
                          (sp == sp &&
                            (pc == pc &&
                              (wz == wz &&
                                (prN (hiN af) (loN af) == af &&
                                  (bc == bc &&
                                    (de == de &&
                                      (hl == hl &&
                                        (p == p &&
                                          (q == q && (im == im && (u == u && (v == v && true))))))))))))))))))))))))) = true →
    K (AV.bool false)) ∧
  ((!(hiN (prN a b) == a &&
    (loN (prN a b) == b &&
      (c == c &&
        (d == d &&
          (e == e &&
            (f == f &&
              (g == g &&
                (h == h &&
                  (i == i &&
                    (r == r &&
                      (ix == ix &&
                        (iy == iy &&
                          (sp == sp &&
                            (pc == pc &&
                              (wz == wz &&
                                (prN (hiN af) (loN af) == af &&
                                  (bc == bc &&
                                    (de == de &&
                                      (hl == hl &&
                                        (p == p &&
                                          (q == q && (im == im && (u == u && (v == v && true))))))))))))))))))))))))) = false →
    ((!(a == a &&
    (b == b &&
      (hiN (prN c d) == c &&
        (loN (prN c d) == d &&
          (hiN (prN e f) == e &&
            (loN (prN e f) == f &&
              (hiN (prN g h) == g &&
                (loN (prN g h) == h &&
                  (i == i &&
                    (r == r &&
                      (ix == ix &&
                        (iy == iy &&
                          (sp == sp &&
                            (pc == pc &&
                              (wz == wz &&
                                (af == af &&
                                  (prN (hiN bc) (loN bc) == bc &&
                                    (prN (hiN de) (loN de) == de &&
                                      (prN (hiN hl) (loN hl) == hl &&
                                        (p == p &&
                                          (q == q && (im == im && (u == u && (v == v && true))))))))))))))))))))))))) = true →
      K (AV.bool false)) ∧
    ((!(a == a &&
    (b == b &&
      (hiN (prN c d) == c &&
        (loN (prN c d) == d &&
          (hiN (prN e f) == e &&
            (loN (prN e f) == f &&
              (hiN (prN g h) == g &&
                (loN (prN g h) == h &&
                  (i == i &&
                    (r == r &&
                      (ix == ix &&
                        (iy == iy &&
                          (sp == sp &&
                            (pc == pc &&
                              (wz == wz &&
                                (af == af &&
                                  (prN (hiN bc) (loN bc) == bc &&
                                    (prN (hiN de) (loN de) == de &&
                                      (prN (hiN hl) (loN hl) == hl &&
                                        (p == p &&
                                          (q == q && (im == im && (u == u && (v == v && true))))))))))))))))))))))))) = false →
      ((!(a == a &&
    (b == b &&
      (c == c &&
        (d == d &&
          (e == e &&
            (f == f &&
              (g == g &&
                (h == h &&
                  (i == i &&
                    (r == r &&
                      (ix == ix &&
                        (iy == iy &&
                          (sp == sp &&
                            (pc == pc &&
                              (wz == wz &&
                                (af == af &&
                                  (bc == bc &&
                                    (de == de &&
                                      (hl == hl &&
                                        (p == p &&
                                          (q == q && (im == im && (u == u && (v == v && true))))))))))))))))))))))))) = true →
        K (AV.bool false)) ∧
      ((!(a == a &&
    (b == b &&
      (c == c &&
        (d == d &&
          (e == e &&
            (f == f &&
              (g == g &&
                (h == h &&
                  (i == i &&
                    (r == r &&
                      (ix == ix &&
                        (iy == iy &&
                          (sp == sp &&
                            (pc == pc &&
                              (wz == wz &&
                                (af == af &&
                                  (bc == bc &&
                                    (de == de &&
                                      (hl == hl &&
                                        (p == p &&
                                          (q == q && (im == im && (u == u && (v == v && true))))))))))))))))))))))))) = false →
        need ((0 : Nat) = (0 : Nat)) ∧
        (need (Fits (0 : Nat) [((0 : Nat), (0 : Nat)), ((1 : Nat), (1 : Nat))]
  { n := (74 : Nat),
    l :=
      [((7 : Nat), AV.int IntKind.i64 (0 : Int)), ((6 : Nat), AV.ptr (1 : Nat) (0 : Nat)),
        ((22 : Nat),
          AV.agg
            [AV.int IntKind.u8 a, AV.int IntKind.u8 b, AV.int IntKind.u8 c, AV.int IntKind.u8 d, AV.int IntKind.u8 e,
              AV.int IntKind.u8 f, AV.int IntKind.u8 g, AV.int IntKind.u8 h, AV.int IntKind.u8 i, AV.int IntKind.u8 r,
              AV.int IntKind.u16 ix, AV.int IntKind.u16 iy, AV.int IntKind.u16 sp, AV.int IntKind.u16 pc,
              AV.int IntKind.u16 wz, AV.int IntKind.u16 af, AV.int IntKind.u16 bc, AV.int IntKind.u16 de,
              AV.int IntKind.u16 hl, AV.bool p, AV.bool q, AV.int IntKind.i64 im, AV.bool u, AV.bool v]),
        ((12 : Nat), AV.bool false), ((11 : Nat), AV.int IntKind.i64 (3 : Int)),
        ((5 : Nat), AV.int IntKind.i64 (3 : Int)), ((14 : Nat), AV.int IntKind.i64 (3 : Int)),
        ((13 : Nat), AV.int IntKind.i64 (2 : Int)),
        ((21 : Nat),
          AV.bool
            !(a == a &&
                (b == b &&
                  (c == c &&
                    (d == d &&
                      (e == e &&
                        (f == f &&
                          (g == g &&
                            (h == h &&
                              (i == i &&
                                (r == r &&
                                  (ix == ix &&
                                    (iy == iy &&
                                      (sp == sp &&
                                        (pc == pc &&
                                          (wz == wz &&
                                            (af == af &&
                                              (bc == bc &&
                                                (de == de &&
                                                  (hl == hl &&
                                                    (p == p &&
                                                      (q == q &&
                                                        (im == im &&
                                                          (u == u && (v == v && true))))))))))))))))))))))))),
        ((20 : Nat),
          AV.agg
            [AV.int IntKind.u8 a, AV.int IntKind.u8 b, AV.int IntKind.u8 c, AV.int IntKind.u8 d, AV.int IntKind.u8 e,
              AV.int IntKind.u8 f, AV.int IntKind.u8 g, AV.int IntKind.u8 h, AV.int IntKind.u8 i, AV.int IntKind.u8 r,
              AV.int IntKind.u16 ix, AV.int IntKind.u16 iy, AV.int IntKind.u16 sp, AV.int IntKind.u16 pc,
              AV.int IntKind.u16 wz, AV.int IntKind.u16 af, AV.int IntKind.u16 bc, AV.int IntKind.u16 de,
              AV.int IntKind.u16 hl, AV.bool p, AV.bool q, AV.int IntKind.i64 im, AV.bool u, AV.bool v]),
        ((19 : Nat),
          AV.agg
            [AV.int IntKind.u8 a, AV.int IntKind.u8 b, AV.int IntKind.u8 c, AV.int IntKind.u8 d, AV.int IntKind.u8 e,
              AV.int IntKind.u8 f, AV.int IntKind.u8 g, AV.int IntKind.u8 h, AV.int IntKind.u8 i, AV.int IntKind.u8 r,
              AV.int IntKind.u16 ix, AV.int IntKind.u16 iy, AV.int IntKind.u16 sp, AV.int IntKind.u16 pc,
              AV.int IntKind.u16 wz, AV.int IntKind.u16 af, AV.int IntKind.u16 bc, AV.int IntKind.u16 de,
              AV.int IntKind.u16 hl, AV.bool p, AV.bool q, AV.int IntKind.i64 im, AV.bool u, AV.bool v]),
        ((18 : Nat), AV.int IntKind.i64 (2 : Int)),
        ((17 : Nat),
          AV.agg
            [AV.int IntKind.u8 a, AV.int IntKind.u8 b, AV.int IntKind.u8 c, AV.int IntKind.u8 d, AV.int IntKind.u8 g,
              AV.int IntKind.u8 h, AV.int IntKind.u8 e, AV.int IntKind.u8 f, AV.int IntKind.u8 i, AV.int IntKind.u8 r,
              AV.int IntKind.u16 ix, AV.int IntKind.u16 iy, AV.int IntKind.u16 sp, AV.int IntKind.u16 pc,
              AV.int IntKind.u16 wz, AV.int IntKind.u16 af, AV.int IntKind.u16 bc, AV.int IntKind.u16 de,
              AV.int IntKind.u16 hl, AV.bool p, AV.bool q, AV.int IntKind.i64 im, AV.bool u, AV.bool v]),
        ((16 : Nat), AV.int IntKind.i64 (2 : Int)),
        ((15 : Nat),
          AV.agg
            [AV.int IntKind.u8 a, AV.int IntKind.u8 b, AV.int IntKind.u8 c, AV.int IntKind.u8 d, AV.int IntKind.u8 e,
              AV.int IntKind.u8 f, AV.int IntKind.u8 g, AV.int IntKind.u8 h, AV.int IntKind.u8 i, AV.int IntKind.u8 r,
              AV.int IntKind.u16 ix, AV.int IntKind.u16 iy, AV.int IntKind.u16 sp, AV.int IntKind.u16 pc,
              AV.int IntKind.u16 wz, AV.int IntKind.u16 af, AV.int IntKind.u16 bc, AV.int IntKind.u16 de,
              AV.int IntKind.u16 hl, AV.bool p, AV.bool q, AV.int IntKind.i64 im, AV.bool u, AV.bool v]),
        ((12 : Nat), AV.bool true), ((11 : Nat), AV.int IntKind.i64 (2 : Int)), ((10 : Nat), AV.bool false),
        ((9 : Nat), AV.bool true), ((4 : Nat), AV.bool false), ((2 : Nat), AV.ptr (0 : Nat) (0 : Nat)),
        ((0 : Nat),
          AV.agg
            [AV.int IntKind.u8 a, AV.int IntKind.u8 b, AV.int IntKind.u8 c, AV.int IntKind.u8 d, AV.int IntKind.u8 e,
              AV.int IntKind.u8 f, AV.int IntKind.u8 g, AV.int IntKind.u8 h, AV.int IntKind.u8 i, AV.int IntKind.u8 r,
              AV.int IntKind.u16 ix, AV.int IntKind.u16 iy, AV.int IntKind.u16 sp, AV.int IntKind.u16 pc,
              AV.int IntKind.u16 wz, AV.int IntKind.u16 af, AV.int IntKind.u16 bc, AV.int IntKind.u16 de,
              AV.int IntKind.u16 hl, AV.bool p, AV.bool q, AV.int IntKind.i64 im, AV.bool u, AV.bool v]),
        ((1 : Nat), AV.int IntKind.u8 z)] }
  { nx := (2 : Nat),
    m :=
      [((1 : Nat),
          AObj.cells (24 : Nat)
            [AV.int IntKind.u8 a, AV.int IntKind.u8 b, AV.int IntKind.u8 c, AV.int IntKind.u8 d, AV.int IntKind.u8 e,
              AV.int IntKind.u8 f, AV.int IntKind.u8 g, AV.int IntKind.u8 h, AV.int IntKind.u8 i, AV.int IntKind.u8 r,
              AV.int IntKind.u16 ix, AV.int IntKind.u16 iy, AV.int IntKind.u16 sp, AV.int IntKind.u16 pc,
              AV.int IntKind.u16 wz, AV.int IntKind.u16 af, AV.int IntKind.u16 bc, AV.int IntKind.u16 de,
              AV.int IntKind.u16 hl, AV.bool p, AV.bool q, AV.int IntKind.i64 im, AV.bool u, AV.bool v]),
        ((0 : Nat),
          AObj.cells (24 : Nat)
            [AV.int IntKind.u8 a, AV.int IntKind.u8 b, AV.int IntKind.u8 c, AV.int IntKind.u8 d, AV.int IntKind.u8 e,
              AV.int IntKind.u8 f, AV.int IntKind.u8 g, AV.int IntKind.u8 h, AV.int IntKind.u8 i, AV.int IntKind.u8 r,
              AV.int IntKind.u16 ix, AV.int IntKind.u16 iy, AV.int IntKind.u16 sp, AV.int IntKind.u16 pc,
              AV.int IntKind.u16 wz, AV.int IntKind.u16 af, AV.int IntKind.u16 bc, AV.int IntKind.u16 de,
              AV.int IntKind.u16 hl, AV.bool p, AV.bool q, AV.int IntKind.i64 im, AV.bool u, AV.bool v])] }
  { n := (74 : Nat),
    l :=
      [((1 : Nat), AV.int IntKind.u8 z), ((2 : Nat), AV.ptr (0 : Nat) (0 : Nat)),
        ((6 : Nat), AV.ptr (1 : Nat) (0 : Nat)), ((7 : Nat), AV.int IntKind.i64 (0 : Int))] }
  { nx := (2 : Nat),
    m :=
      [((1 : Nat),
          AObj.cells (24 : Nat)
            [AV.int IntKind.u8 a, AV.int IntKind.u8 b, AV.int IntKind.u8 c, AV.int IntKind.u8 d, AV.int IntKind.u8 e,
              AV.int IntKind.u8 f, AV.int IntKind.u8 g, AV.int IntKind.u8 h, AV.int IntKind.u8 i, AV.int IntKind.u8 r,
              AV.int IntKind.u16 ix, AV.int IntKind.u16 iy, AV.int IntKind.u16 sp, AV.int IntKind.u16 pc,
              AV.int IntKind.u16 wz, AV.int IntKind.u16 af, AV.int IntKind.u16 bc, AV.int IntKind.u16 de,
              AV.int IntKind.u16 hl, AV.bool p, AV.bool q, AV.int IntKind.i64 im, AV.bool u, AV.bool v]),
        ((0 : Nat),
          AObj.cells (24 : Nat)
            [AV.int IntKind.u8 a, AV.int IntKind.u8 b, AV.int IntKind.u8 c, AV.int IntKind.u8 d, AV.int IntKind.u8 e,
              AV.int IntKind.u8 f, AV.int IntKind.u8 g, AV.int IntKind.u8 h, AV.int IntKind.u8 i, AV.int IntKind.u8 r,
              AV.int IntKind.u16 ix, AV.int IntKind.u16 iy, AV.int IntKind.u16 sp, AV.int IntKind.u16 pc,
              AV.int IntKind.u16 wz, AV.int IntKind.u16 af, AV.int IntKind.u16 bc, AV.int IntKind.u16 de,
              AV.int IntKind.u16 hl, AV.bool p, AV.bool q, AV.int IntKind.i64 im, AV.bool u, AV.bool v])] }) ∧
        (need (rsPre r) ∧
        (((((!decide (bits BinOp.and IntKind.u8 z (64 : Int) = (0 : Int))) == false) ==
  ((!decide (bits BinOp.and IntKind.u8 z (64 : Int) = (0 : Int))) == true)) = true →
          K (AV.bool false)) ∧
        ((((!decide (bits BinOp.and IntKind.u8 z (64 : Int) = (0 : Int))) == false) ==
  ((!decide (bits BinOp.and IntKind.u8 z (64 : Int) = (0 : Int))) == true)) = false →
          ((((!decide (bits BinOp.and IntKind.u8 z (1 : Int) = (0 : Int))) == false) ==
  ((!decide (bits BinOp.and IntKind.u8 z (1 : Int) = (0 : Int))) == true)) = true →
            K (AV.bool false)) ∧
          ((((!decide (bits BinOp.and IntKind.u8 z (1 : Int) = (0 : Int))) == false) ==
  ((!decide (bits BinOp.and IntKind.u8 z (1 : Int) = (0 : Int))) == true)) = false →
            ((((!decide (bits BinOp.and IntKind.u8 z (4 : Int) = (0 : Int))) == false) ==
  ((!decide (bits BinOp.and IntKind.u8 z (4 : Int) = (0 : Int))) == true)) = true →
              K (AV.bool false)) ∧
            ((((!decide (bits BinOp.and IntKind.u8 z (4 : Int) = (0 : Int))) == false) ==
  ((!decide (bits BinOp.and IntKind.u8 z (4 : Int) = (0 : Int))) == true)) = false →
              ((((!decide (bits BinOp.and IntKind.u8 z (128 : Int) = (0 : Int))) == false) ==
  ((!decide (bits BinOp.and IntKind.u8 z (128 : Int) = (0 : Int))) == true)) = true →
                K (AV.bool false)) ∧
              ((((!decide (bits BinOp.and IntKind.u8 z (128 : Int) = (0 : Int))) == false) ==
  ((!decide (bits BinOp.and IntKind.u8 z (128 : Int) = (0 : Int))) == true)) = false →
                (a == a &&
  (b == b &&
    (c == c &&
      (d == d &&
        (e == e &&
          (f == f &&
            (g == g &&
              (h == h &&
                (i == i &&
                  (r == r &&
                    (ix == ix &&
                      (iy == iy &&
                        (sp == sp &&
                          (pc == pc &&
                            (wz == wz &&
                              (af == af &&
                                (bc == bc &&
                                  (de == de &&
                                    (hl == hl &&
                                      (p == p &&
                                        (q == q && (im == im && (u == u && (v == v && true)))))))))))))))))))))))) = true ∧
                ((a == a &&
  (b == b &&
    (c == c &&
      (d == d &&
        (e == e &&
          (f == f &&
            (g == g &&
              (h == h &&
                (i == i &&
                  (r == r &&
                    (ix == ix &&
                      (iy == iy &&
                        (sp == sp &&
                          (pc == pc &&
                            (wz == wz &&
                              (af == af &&
                                (bc == bc &&
                                  (de == de &&
                                    (hl == hl &&
                                      (p == p &&
                                        (q == q && (im == im && (u == u && (v == v && true)))))))))))))))))))))))) = true ∧
                ((a == a &&
  (b == b &&
    (c == c &&
      (d == d &&
        (e == e &&
          (f == f &&
            (g == g &&
              (h == h &&
                (i == i &&
                  (r == r &&
                    (ix == ix &&
                      (iy == iy &&
                        (sp == sp &&
                          (pc == pc &&
                            (wz == wz &&
                              (af == af &&
                                (bc == bc &&
                                  (de == de &&
                                    (hl == hl &&
                                      (p == p &&
                                        (q == q && (im == im && (u == u && (v == v && true)))))))))))))))))))))))) = true ∧
                ((a == a &&
  (b == b &&
    (c == c &&
      (d == d &&
        (e == e &&
          (f == f &&
            (g == g &&
              (h == h &&
                (i == i &&
                  (r == r &&
                    (ix == ix &&
                      (iy == iy &&
                        (sp == sp &&
                          (pc == pc &&
                            (wz == wz &&
                              (af == af &&
                                (bc == bc &&
                                  (de == de &&
                                    (hl == hl &&
                                      (p == p &&
                                        (q == q && (im == im && (u == u && (v == v && true)))))))))))))))))))))))) = true ∧
                ((a == a &&
  (b == b &&
    (c == c &&
      (d == d &&
        (e == e &&
          (f == f &&
            (g == g &&
              (h == h &&
                (i == i &&
                  (r == r &&
                    (ix == ix &&
                      (iy == iy &&
                        (sp == sp &&
                          (pc == pc &&
                            (wz == wz &&
                              (af == af &&
                                (bc == bc &&
                                  (de == de &&
                                    (hl == hl &&
                                      (p == p &&
                                        (q == q && (im == im && (u == u && (v == v && true)))))))))))))))))))))))) = true ∧
                ((a == a &&
  (b == b &&
    (c == c &&
      (d == d &&
        (e == e &&
          (f == f &&
            (g == g &&
              (h == h &&
                (i == i &&
                  (r == r &&
                    (ix == ix &&
                      (iy == iy &&
                        (sp == sp &&
                          (pc == pc &&
                            (wz == wz &&
                              (af == af &&
                                (bc == bc &&
                                  (de == de &&
                                    (hl == hl &&
                                      (p == p &&
                                        (q == q && (im == im && (u == u && (v == v && true)))))))))))))))))))))))) = true ∧
                ((a == a &&
  (b == b &&
    (c == c &&
      (d == d &&
        (e == e &&
          (f == f &&
            (g == g &&
              (h == h &&
                (i == i &&
                  (r == r &&
                    (ix == ix &&
                      (iy == iy &&
                        (sp == sp &&
                          (pc == pc &&
                            (wz == wz &&
                              (af == af &&
                                (bc == bc &&
                                  (de == de &&
                                    (hl == hl &&
                                      (p == p &&
                                        (q == q && (im == im && (u == u && (v == v && true)))))))))))))))))))))))) = true ∧
                ((a == a &&
  (b == b &&
    (c == c &&
      (d == d &&
        (e == e &&
          (f == f &&
            (g == g &&
              (h == h &&
                (i == i &&
                  (r == r &&
                    (ix == ix &&
                      (iy == iy &&
                        (sp == sp &&
                          (pc == pc &&
                            (wz == wz &&
                              (af == af &&
                                (bc == bc &&
                                  (de == de &&
                                    (hl == hl &&
                                      (p == p &&
                                        (q == q && (im == im && (u == u && (v == v && true)))))))))))))))))))))))) = true ∧
                (((hiN af == hiN af &&
  (loN af == loN af &&
    (hiN bc == hiN bc &&
      (loN bc == loN bc &&
        (hiN de == hiN de &&
          (loN de == loN de &&
            (hiN hl == hiN hl &&
              (loN hl == loN hl &&
                (i == i &&
                  (r == r &&
                    (ix == ix &&
                      (iy == iy &&
                        (sp == sp &&
                          (pc == pc &&
                            (wz == wz &&
                              (prN a b == prN a b &&
                                (prN c d == prN c d &&
                                  (prN e f == prN e f &&
                                    (prN g h == prN g h &&
                                      (p == p &&
                                        (q == q && (im == im && (u == u && (v == v && true)))))))))))))))))))))))) = true →
                  (hiN af == hiN af &&
  (loN af == loN af &&
    (hiN bc == hiN bc &&
      (loN bc == loN bc &&
        (hiN de == hiN de &&
          (loN de == loN de &&
            (hiN hl == hiN hl &&
              (loN hl == loN hl &&
                (i == i &&
                  (r == r &&
                    (ix == ix &&
                      (iy == iy &&
                        (sp == sp &&
                          (pc == pc &&
                            (wz == wz &&
                              (prN a b == prN a b &&
                                (prN c d == prN c d &&
                                  (prN e f == prN e f &&
                                    (prN g h == prN g h &&
                                      (p == p &&
                                        (q == q && (im == im && (u == u && (v == v && true)))))))))))))))))))))))) = true ∧
                  ((hiN af == hiN af &&
  (loN af == loN af &&
    (hiN bc == hiN bc &&
      (loN bc == loN bc &&
        (hiN de == hiN de &&
          (loN de == loN de &&
            (hiN hl == hiN hl &&
              (loN hl == loN hl &&
                (i == i &&
                  (r == r &&
                    (ix == ix &&
                      (iy == iy &&
                        (sp == sp &&
                          (pc == pc &&
                            (wz == wz &&
                              (prN a b == prN a b &&
                                (prN c d == prN c d &&
                                  (prN e f == prN e f &&
                                    (prN g h == prN g h &&
                                      (p == p &&
                                        (q == q && (im == im && (u == u && (v == v && true)))))))))))))))))))))))) = true ∧
                  ((hiN af == hiN af &&
  (loN af == loN af &&
    (hiN bc == hiN bc &&
      (loN bc == loN bc &&
        (hiN de == hiN de &&
          (loN de == loN de &&
            (hiN hl == hiN hl &&
              (loN hl == loN hl &&
                (i == i &&
                  (r == r &&
                    (ix == ix &&
                      (iy == iy &&
                        (sp == sp &&
                          (pc == pc &&
                            (wz == wz &&
                              (prN a b == prN a b &&
                                (prN c d == prN c d &&
                                  (prN e f == prN e f &&
                                    (prN g h == prN g h &&
                                      (p == p &&
                                        (q == q && (im == im && (u == u && (v == v && true)))))))))))))))))))))))) = true ∧
                  ((hiN af == hiN af &&
  (loN af == loN af &&
    (hiN bc == hiN bc &&
      (loN bc == loN bc &&
        (hiN de == hiN de &&
          (loN de == loN de &&
            (hiN hl == hiN hl &&
              (loN hl == loN hl &&
                (i == i &&
                  (r == r &&
                    (ix == ix &&
                      (iy == iy &&
                        (sp == sp &&
                          (pc == pc &&
                            (wz == wz &&
                              (prN a b == prN a b &&
                                (prN c d == prN c d &&
                                  (prN e f == prN e f &&
                                    (prN g h == prN g h &&
                                      (p == p &&
                                        (q == q && (im == im && (u == u && (v == v && true)))))))))))))))))))))))) = true ∧
                  ((hiN af == hiN af &&
  (loN af == loN af &&
    (hiN bc == hiN bc &&
      (loN bc == loN bc &&
        (hiN de == hiN de &&
          (loN de == loN de &&
            (hiN hl == hiN hl &&
              (loN hl == loN hl &&
                (i == i &&
                  (r == r &&
                    (ix == ix &&
                      (iy == iy &&
                        (sp == sp &&
                          (pc == pc &&
                            (wz == wz &&
                              (prN a b == prN a b &&
                                (prN c d == prN c d &&
                                  (prN e f == prN e f &&
                                    (prN g h == prN g h &&
                                      (p == p &&
                                        (q == q && (im == im && (u == u && (v == v && true)))))))))))))))))))))))) = true ∧
                  (((hiN af == hiN af &&
  (loN af == loN af &&
    (c == c &&
      (d == d &&
        (e == e &&
          (f == f &&
            (g == g &&
              (h == h &&
                (i == i &&
                  (r == r &&
                    (ix == ix &&
                      (iy == iy &&
                        (sp == sp &&
                          (pc == pc &&
                            (wz == wz &&
                              (prN a b == prN a b &&
                                (bc == bc &&
                                  (de == de &&
                                    (hl == hl &&
                                      (p == p &&
                                        (q == q && (im == im && (u == u && (v == v && true)))))))))))))))))))))))) = true →
                    (hiN af == hiN af &&
  (loN af == loN af &&
    (c == c &&
      (d == d &&
        (e == e &&
          (f == f &&
            (g == g &&
              (h == h &&
                (i == i &&
                  (r == r &&
                    (ix == ix &&
                      (iy == iy &&
                        (sp == sp &&
                          (pc == pc &&
                            (wz == wz &&
                              (prN a b == prN a b &&
                                (bc == bc &&
                                  (de == de &&
                                    (hl == hl &&
                                      (p == p &&
                                        (q == q && (im == im && (u == u && (v == v && true)))))))))))))))))))))))) = true ∧
                    ((hiN af == hiN af &&
  (loN af == loN af &&
    (c == c &&
      (d == d &&
        (e == e &&
          (f == f &&
            (g == g &&
              (h == h &&
                (i == i &&
                  (r == r &&
                    (ix == ix &&
                      (iy == iy &&
                        (sp == sp &&
                          (pc == pc &&
                            (wz == wz &&
                              (prN a b == prN a b &&
                                (bc == bc &&
                                  (de == de &&
                                    (hl == hl &&
                                      (p == p &&
                                        (q == q && (im == im && (u == u && (v == v && true)))))))))))))))))))))))) = true ∧
                    ((hiN af == hiN af &&
  (loN af == loN af &&
    (c == c &&
      (d == d &&
        (e == e &&
          (f == f &&
            (g == g &&
              (h == h &&
                (i == i &&
                  (r == r &&
                    (ix == ix &&
                      (iy == iy &&
                        (sp == sp &&
                          (pc == pc &&
                            (wz == wz &&
                              (prN a b == prN a b &&
                                (bc == bc &&
                                  (de == de &&
                                    (hl == hl &&
                                      (p == p &&
                                        (q == q && (im == im && (u == u && (v == v && true)))))))))))))))))))))))) = true ∧
                    ((hiN af == hiN af &&
  (loN af == loN af &&
    (c == c &&
      (d == d &&
        (e == e &&
          (f == f &&
            (g == g &&
              (h == h &&
                (i == i &&
                  (r == r &&
                    (ix == ix &&
                      (iy == iy &&
                        (sp == sp &&
                          (pc == pc &&
                            (wz == wz &&
                              (prN a b == prN a b &&
                                (bc == bc &&
                                  (de == de &&
                                    (hl == hl &&
                                      (p == p &&
                                        (q == q && (im == im && (u == u && (v == v && true)))))))))))))))))))))))) = true ∧
                    ((hiN af == hiN af &&
  (loN af == loN af &&
    (c == c &&
      (d == d &&
        (e == e &&
          (f == f &&
            (g == g &&
              (h == h &&
                (i == i &&
                  (r == r &&
                    (ix == ix &&
                      (iy == iy &&
                        (sp == sp &&
                          (pc == pc &&
                            (wz == wz &&
                              (prN a b == prN a b &&
                                (bc == bc &&
                                  (de == de &&
                                    (hl == hl &&
                                      (p == p &&
                                        (q == q && (im == im && (u == u && (v == v && true)))))))))))))))))))))))) = true ∧
                    (K
  (AV.bool
    (a == a &&
      (b == b &&
        (c == c &&
          (d == d &&
            (g == g &&
              (h == h &&
                (e == e &&
                  (f == f &&
                    (i == i &&
                      (r == r &&
                        (ix == ix &&
                          (iy == iy &&
                            (sp == sp &&
                              (pc == pc &&
                                (wz == wz &&
                                  (af == af &&
                                    (bc == bc &&
                                      (de == de &&
                                        (hl == hl &&
                                          (p == p &&
                                            (q == q && (im == im && (u == u && (v == v && true))))))))))))))))))))))))))))))) ∧
                  ((hiN af == hiN af &&
  (loN af == loN af &&
    (c == c &&
      (d == d &&
        (e == e &&
          (f == f &&
            (g == g &&
              (h == h &&
                (i == i &&
                  (r == r &&
                    (ix == ix &&
                      (iy == iy &&
                        (sp == sp &&
                          (pc == pc &&
                            (wz == wz &&
                              (prN a b == prN a b &&
                                (bc == bc &&
                                  (de == de &&
                                    (hl == hl &&
                                      (p == p &&
                                        (q == q && (im == im && (u == u && (v == v && true)))))))))))))))))))))))) = false →
                    (hiN af == hiN af &&
  (loN af == loN af &&
    (c == c &&
      (d == d &&
        (e == e &&
          (f == f &&
            (g == g &&
              (h == h &&
                (i == i &&
                  (r == r &&
                    (ix == ix &&
                      (iy == iy &&
                        (sp == sp &&
                          (pc == pc &&
                            (wz == wz &&
                              (prN a b == prN a b &&
                                (bc == bc &&
                                  (de == de &&
                                    (hl == hl &&
                                      (p == p &&
                                        (q == q && (im == im && (u == u && (v == v && true)))))))))))))))))))))))) = false ∧
                    ((hiN af == hiN af &&
  (loN af == loN af &&
    (c == c &&
      (d == d &&
        (e == e &&
          (f == f &&
            (g == g &&
              (h == h &&
                (i == i &&
                  (r == r &&
                    (ix == ix &&
                      (iy == iy &&
                        (sp == sp &&
                          (pc == pc &&
                            (wz == wz &&
                              (prN a b == prN a b &&
                                (bc == bc &&
                                  (de == de &&
                                    (hl == hl &&
                                      (p == p &&
                                        (q == q && (im == im && (u == u && (v == v && true)))))))))))))))))))))))) = false ∧
                    ((hiN af == hiN af &&
  (loN af == loN af &&
    (c == c &&
      (d == d &&
        (e == e &&
          (f == f &&
            (g == g &&
              (h == h &&
                (i == i &&
                  (r == r &&
                    (ix == ix &&
                      (iy == iy &&
                        (sp == sp &&
                          (pc == pc &&
                            (wz == wz &&
                              (prN a b == prN a b &&
                                (bc == bc &&
                                  (de == de &&
                                    (hl == hl &&
                                      (p == p &&
                                        (q == q && (im == im && (u == u && (v == v && true)))))))))))))))))))))))) = false ∧
                    ((hiN af == hiN af &&
  (loN af == loN af &&
    (c == c &&
      (d == d &&
        (e == e &&
          (f == f &&
            (g == g &&
              (h == h &&
                (i == i &&
                  (r == r &&
                    (ix == ix &&
                      (iy == iy &&
                        (sp == sp &&
                          (pc == pc &&
                            (wz == wz &&
                              (prN a b == prN a b &&
                                (bc == bc &&
                                  (de == de &&
                                    (hl == hl &&
                                      (p == p &&
                                        (q == q && (im == im && (u == u && (v == v && true)))))))))))))))))))))))) = false ∧
                    ((hiN af == hiN af &&
  (loN af == loN af &&
    (c == c &&
      (d == d &&
        (e == e &&
          (f == f &&
            (g == g &&
              (h == h &&
                (i == i &&
                  (r == r &&
                    (ix == ix &&
                      (iy == iy &&
                        (sp == sp &&
                          (pc == pc &&
                            (wz == wz &&
                              (prN a b == prN a b &&
                                (bc == bc &&
                                  (de == de &&
                                    (hl == hl &&
                                      (p == p &&
                                        (q == q && (im == im && (u == u && (v == v && true)))))))))))))))))))))))) = false ∧
                    (K (AV.bool false))))))))))))) ∧
                ((hiN af == hiN af &&
  (loN af == loN af &&
    (hiN bc == hiN bc &&
      (loN bc == loN bc &&
        (hiN de == hiN de &&
          (loN de == loN de &&
            (hiN hl == hiN hl &&
              (loN hl == loN hl &&
                (i == i &&
                  (r == r &&
                    (ix == ix &&
                      (iy == iy &&
                        (sp == sp &&
                          (pc == pc &&
                            (wz == wz &&
                              (prN a b == prN a b &&
                                (prN c d == prN c d &&
                                  (prN e f == prN e f &&
                                    (prN g h == prN g h &&
                                      (p == p &&
                                        (q == q && (im == im && (u == u && (v == v && true)))))))))))))))))))))))) = false →
                  (hiN af == hiN af &&
  (loN af == loN af &&
    (hiN bc == hiN bc &&
      (loN bc == loN bc &&
        (hiN de == hiN de &&
          (loN de == loN de &&
            (hiN hl == hiN hl &&
              (loN hl == loN hl &&
                (i == i &&
                  (r == r &&
                    (ix == ix &&
                      (iy == iy &&
                        (sp == sp &&
                          (pc == pc &&
                            (wz == wz &&
                              (prN a b == prN a b &&
                                (prN c d == prN c d &&
                                  (prN e f == prN e f &&
                                    (prN g h == prN g h &&
                                      (p == p &&
                                        (q == q && (im == im && (u == u && (v == v && true)))))))))))))))))))))))) = false ∧
                  ((hiN af == hiN af &&
  (loN af == loN af &&
    (hiN bc == hiN bc &&
      (loN bc == loN bc &&
        (hiN de == hiN de &&
          (loN de == loN de &&
            (hiN hl == hiN hl &&
              (loN hl == loN hl &&
                (i == i &&
                  (r == r &&
                    (ix == ix &&
                      (iy == iy &&
                        (sp == sp &&
                          (pc == pc &&
                            (wz == wz &&
                              (prN a b == prN a b &&
                                (prN c d == prN c d &&
                                  (prN e f == prN e f &&
                                    (prN g h == prN g h &&
                                      (p == p &&
                                        (q == q && (im == im && (u == u && (v == v && true)))))))))))))))))))))))) = false ∧
                  ((hiN af == hiN af &&
  (loN af == loN af &&
    (hiN bc == hiN bc &&
      (loN bc == loN bc &&
        (hiN de == hiN de &&
          (loN de == loN de &&
            (hiN hl == hiN hl &&
              (loN hl == loN hl &&
                (i == i &&
                  (r == r &&
                    (ix == ix &&
                      (iy == iy &&
                        (sp == sp &&
                          (pc == pc &&
                            (wz == wz &&
                              (prN a b == prN a b &&
                                (prN c d == prN c d &&
                                  (prN e f == prN e f &&
                                    (prN g h == prN g h &&
                                      (p == p &&
                                        (q == q && (im == im && (u == u && (v == v && true)))))))))))))))))))))))) = false ∧
                  ((hiN af == hiN af &&
  (loN af == loN af &&
    (hiN bc == hiN bc &&
      (loN bc == loN bc &&
        (hiN de == hiN de &&
          (loN de == loN de &&
            (hiN hl == hiN hl &&
              (loN hl == loN hl &&
                (i == i &&
                  (r == r &&
                    (ix == ix &&
                      (iy == iy &&
                        (sp == sp &&
                          (pc == pc &&
                            (wz == wz &&
                              (prN a b == prN a b &&
                                (prN c d == prN c d &&
                                  (prN e f == prN e f &&
                                    (prN g h == prN g h &&
                                      (p == p &&
                                        (q == q && (im == im && (u == u && (v == v && true)))))))))))))))))))))))) = false ∧
                  ((hiN af == hiN af &&
  (loN af == loN af &&
    (hiN bc == hiN bc &&
      (loN bc == loN bc &&
        (hiN de == hiN de &&
          (loN de == loN de &&
            (hiN hl == hiN hl &&
              (loN hl == loN hl &&
                (i == i &&
                  (r == r &&
                    (ix == ix &&
                      (iy == iy &&
                        (sp == sp &&
                          (pc == pc &&
                            (wz == wz &&
                              (prN a b == prN a b &&
                                (prN c d == prN c d &&
                                  (prN e f == prN e f &&
                                    (prN g h == prN g h &&
                                      (p == p &&
                                        (q == q && (im == im && (u == u && (v == v && true)))))))))))))))))))))))) = false ∧
                  (K (AV.bool false)))))))))))))))))))))))))
def rs_scr : Plan := .k (.k (.b (.z) (.k (.b (.z) (.k (.b (.z) (.k (.k (.k (.k (.k (.k (.k (.k (.b (.z) (.k (.k (.k (.k (.k (.k (.k (.b (.z) (.k (.k (.k (.k (.k (.k (.k (.b (.z) (.k (.k (.k (.k (.k (.k (.k (.b (.z) (.k (.t (.t (.t (.t (.t (.t (.t (.t (.b (.t (.t (.t (.t (.t (.b (.t (.t (.t (.t (.t (.z)))))) (.f (.f (.f (.f (.f (.z)))))))))))) (.f (.f (.f (.f (.f (.z)))))))))))))))))))))))))))))))))))))))))))))))))))))))
theorem rs_vc (a b c d e f g h i r ix iy sp pc wz af bc de hl im : Int) (p q u v : Bool) (z : Int) (K : AV → Prop) : (funP (XRs a b c d e f g h i r ix iy sp pc wz af bc de hl im p q u v z) 3 [.agg [.int .u8 a, .int .u8 b, .int .u8 c, .int .u8 d, .int .u8 e, .int .u8 f, .int .u8 g, .int .u8 h, .int .u8 i, .int .u8 r, .int .u16 ix, .int .u16 iy, .int .u16 sp, .int .u16 pc, .int .u16 wz, .int .u16 af, .int .u16 bc, .int .u16 de, .int .u16 hl, .bool p, .bool q, .int .i64 im, .bool u, .bool v], .int .u8 z] h0 rs_scr (fun v _ _ => K v)) = rs_VC a b c d e f g h i r ix iy sp pc wz af bc de hl im p q u v z K := by kernel_rfl
end Go.Proofs.YthmakddlhaeblaaDoor.V
