/- Printed by vc.py: what must hold for functions' ways (RgO3). -/
import Derived.Test.YthmakddlhaeblaaDoorRgN
namespace Go.Proofs.YthmakddlhaeblaaDoor.V
open Go Go.Proofs
set_option maxRecDepth 100000
set_option linter.unusedVariables false
def al6_VC (a b c d e f g h i r ix iy sp pc wz af bc de hl im : Int) (p q u v : Bool) (j k : Int) (s : Bool) (w y : Int) (K : AV → Prop) : Prop :=
  (decide (mdN k (8 : Int) = (6 : Int))) = true ∧
  (((!(aP a w (mdN j (3 : Int)) (mdN k (8 : Int)) == a &&
    (b == b &&
      (cP c w (mdN j (3 : Int)) (mdN k (8 : Int)) == c &&
        (dP d w (mdN j (3 : Int)) (mdN k (8 : Int)) == d &&
          (eP e w (mdN j (3 : Int)) (mdN k (8 : Int)) == e &&
            (fP f w (mdN j (3 : Int)) (mdN k (8 : Int)) == f &&
              (gP g w (mdN j (3 : Int)) (mdN k (8 : Int)) == g &&
                (hP h w (mdN j (3 : Int)) (mdN k (8 : Int)) == h &&
                  (i == i &&
                    (r == r &&
                      (ixP ix w (mdN j (3 : Int)) (mdN k (8 : Int)) == ix &&
                        (iyP iy w (mdN j (3 : Int)) (mdN k (8 : Int)) == iy &&
                          (sp == sp &&
                            (pc == pc &&
                              (wz == wz &&
                                (af == af &&
                                  (bc == bc &&
                                    (de == de &&
                                      (hl == hl &&
                                        (p == p &&
                                          (q == q && (im == im && (u == u && (v == v && true))))))))))))))))))))))))) = true →
    K (AV.bool false)) ∧
  ((!(aP a w (mdN j (3 : Int)) (mdN k (8 : Int)) == a &&
    (b == b &&
      (cP c w (mdN j (3 : Int)) (mdN k (8 : Int)) == c &&
        (dP d w (mdN j (3 : Int)) (mdN k (8 : Int)) == d &&
          (eP e w (mdN j (3 : Int)) (mdN k (8 : Int)) == e &&
            (fP f w (mdN j (3 : Int)) (mdN k (8 : Int)) == f &&
              (gP g w (mdN j (3 : Int)) (mdN k (8 : Int)) == g &&
                (hP h w (mdN j (3 : Int)) (mdN k (8 : Int)) == h &&
                  (i == i &&
                    (r == r &&
                      (ixP ix w (mdN j (3 : Int)) (mdN k (8 : Int)) == ix &&
                        (iyP iy w (mdN j (3 : Int)) (mdN k (8 : Int)) == iy &&
                          (sp == sp &&
                            (pc == pc &&
                              (wz == wz &&
                                (af == af &&
                                  (bc == bc &&
                                    (de == de &&
                                      (hl == hl &&
                                        (p == p &&
                                          (q == q && (im == im && (u == u && (v == v && true))))))))))))))))))))))))) = false →
    ((!decide
    (getN (aP a w (mdN j (3 : Int)) (mdN k (8 : Int))) (cP c w (mdN j (3 : Int)) (mdN k (8 : Int)))
        (dP d w (mdN j (3 : Int)) (mdN k (8 : Int))) (eP e w (mdN j (3 : Int)) (mdN k (8 : Int)))
        (fP f w (mdN j (3 : Int)) (mdN k (8 : Int))) (gP g w (mdN j (3 : Int)) (mdN k (8 : Int)))
        (hP h w (mdN j (3 : Int)) (mdN k (8 : Int))) (ixP ix w (mdN j (3 : Int)) (mdN k (8 : Int)))
        (iyP iy w (mdN j (3 : Int)) (mdN k (8 : Int))) (mdN j (3 : Int)) (0 : Int) =
      getN a c d e f g h ix iy (mdN j (3 : Int)) (0 : Int))) = true →
      K (AV.bool false)) ∧
    ((!decide
    (getN (aP a w (mdN j (3 : Int)) (mdN k (8 : Int))) (cP c w (mdN j (3 : Int)) (mdN k (8 : Int)))
        (dP d w (mdN j (3 : Int)) (mdN k (8 : Int))) (eP e w (mdN j (3 : Int)) (mdN k (8 : Int)))
        (fP f w (mdN j (3 : Int)) (mdN k (8 : Int))) (gP g w (mdN j (3 : Int)) (mdN k (8 : Int)))
        (hP h w (mdN j (3 : Int)) (mdN k (8 : Int))) (ixP ix w (mdN j (3 : Int)) (mdN k (8 : Int)))
        (iyP iy w (mdN j (3 : Int)) (mdN k (8 : Int))) (mdN j (3 : Int)) (0 : Int) =
      getN a c d e f g h ix iy (mdN j (3 : Int)) (0 : Int))) = false →
      ((!decide
    (getN (aP a w (mdN j (3 : Int)) (mdN k (8 : Int))) (cP c w (mdN j (3 : Int)) (mdN k (8 : Int)))
        (dP d w (mdN j (3 : Int)) (mdN k (8 : Int))) (eP e w (mdN j (3 : Int)) (mdN k (8 : Int)))
        (fP f w (mdN j (3 : Int)) (mdN k (8 : Int))) (gP g w (mdN j (3 : Int)) (mdN k (8 : Int)))
        (hP h w (mdN j (3 : Int)) (mdN k (8 : Int))) (ixP ix w (mdN j (3 : Int)) (mdN k (8 : Int)))
        (iyP iy w (mdN j (3 : Int)) (mdN k (8 : Int))) (mdN j (3 : Int)) (1 : Int) =
      getN a c d e f g h ix iy (mdN j (3 : Int)) (1 : Int))) = true →
        K (AV.bool false)) ∧
      ((!decide
    (getN (aP a w (mdN j (3 : Int)) (mdN k (8 : Int))) (cP c w (mdN j (3 : Int)) (mdN k (8 : Int)))
        (dP d w (mdN j (3 : Int)) (mdN k (8 : Int))) (eP e w (mdN j (3 : Int)) (mdN k (8 : Int)))
        (fP f w (mdN j (3 : Int)) (mdN k (8 : Int))) (gP g w (mdN j (3 : Int)) (mdN k (8 : Int)))
        (hP h w (mdN j (3 : Int)) (mdN k (8 : Int))) (ixP ix w (mdN j (3 : Int)) (mdN k (8 : Int)))
        (iyP iy w (mdN j (3 : Int)) (mdN k (8 : Int))) (mdN j (3 : Int)) (1 : Int) =
      getN a c d e f g h ix iy (mdN j (3 : Int)) (1 : Int))) = false →
        ((!decide
    (getN (aP a w (mdN j (3 : Int)) (mdN k (8 : Int))) (cP c w (mdN j (3 : Int)) (mdN k (8 : Int)))
        (dP d w (mdN j (3 : Int)) (mdN k (8 : Int))) (eP e w (mdN j (3 : Int)) (mdN k (8 : Int)))
        (fP f w (mdN j (3 : Int)) (mdN k (8 : Int))) (gP g w (mdN j (3 : Int)) (mdN k (8 : Int)))
        (hP h w (mdN j (3 : Int)) (mdN k (8 : Int))) (ixP ix w (mdN j (3 : Int)) (mdN k (8 : Int)))
        (iyP iy w (mdN j (3 : Int)) (mdN k (8 : Int))) (mdN j (3 : Int)) (2 : Int) =
      getN a c d e f g h ix iy (mdN j (3 : Int)) (2 : Int))) = true →
          K (AV.bool false)) ∧
        ((!decide
    (getN (aP a w (mdN j (3 : Int)) (mdN k (8 : Int))) (cP c w (mdN j (3 : Int)) (mdN k (8 : Int)))
        (dP d w (mdN j (3 : Int)) (mdN k (8 : Int))) (eP e w (mdN j (3 : Int)) (mdN k (8 : Int)))
        (fP f w (mdN j (3 : Int)) (mdN k (8 : Int))) (gP g w (mdN j (3 : Int)) (mdN k (8 : Int)))
        (hP h w (mdN j (3 : Int)) (mdN k (8 : Int))) (ixP ix w (mdN j (3 : Int)) (mdN k (8 : Int)))
        (iyP iy w (mdN j (3 : Int)) (mdN k (8 : Int))) (mdN j (3 : Int)) (2 : Int) =
      getN a c d e f g h ix iy (mdN j (3 : Int)) (2 : Int))) = false →
          ((!decide
    (getN (aP a w (mdN j (3 : Int)) (mdN k (8 : Int))) (cP c w (mdN j (3 : Int)) (mdN k (8 : Int)))
        (dP d w (mdN j (3 : Int)) (mdN k (8 : Int))) (eP e w (mdN j (3 : Int)) (mdN k (8 : Int)))
        (fP f w (mdN j (3 : Int)) (mdN k (8 : Int))) (gP g w (mdN j (3 : Int)) (mdN k (8 : Int)))
        (hP h w (mdN j (3 : Int)) (mdN k (8 : Int))) (ixP ix w (mdN j (3 : Int)) (mdN k (8 : Int)))
        (iyP iy w (mdN j (3 : Int)) (mdN k (8 : Int))) (mdN j (3 : Int)) (3 : Int) =
      getN a c d e f g h ix iy (mdN j (3 : Int)) (3 : Int))) = true →
            K (AV.bool false)) ∧
          ((!decide
    (getN (aP a w (mdN j (3 : Int)) (mdN k (8 : Int))) (cP c w (mdN j (3 : Int)) (mdN k (8 : Int)))
        (dP d w (mdN j (3 : Int)) (mdN k (8 : Int))) (eP e w (mdN j (3 : Int)) (mdN k (8 : Int)))
        (fP f w (mdN j (3 : Int)) (mdN k (8 : Int))) (gP g w (mdN j (3 : Int)) (mdN k (8 : Int)))
        (hP h w (mdN j (3 : Int)) (mdN k (8 : Int))) (ixP ix w (mdN j (3 : Int)) (mdN k (8 : Int)))
        (iyP iy w (mdN j (3 : Int)) (mdN k (8 : Int))) (mdN j (3 : Int)) (3 : Int) =
      getN a c d e f g h ix iy (mdN j (3 : Int)) (3 : Int))) = false →
            ((!decide
    (getN (aP a w (mdN j (3 : Int)) (mdN k (8 : Int))) (cP c w (mdN j (3 : Int)) (mdN k (8 : Int)))
        (dP d w (mdN j (3 : Int)) (mdN k (8 : Int))) (eP e w (mdN j (3 : Int)) (mdN k (8 : Int)))
        (fP f w (mdN j (3 : Int)) (mdN k (8 : Int))) (gP g w (mdN j (3 : Int)) (mdN k (8 : Int)))
        (hP h w (mdN j (3 : Int)) (mdN k (8 : Int))) (ixP ix w (mdN j (3 : Int)) (mdN k (8 : Int)))
        (iyP iy w (mdN j (3 : Int)) (mdN k (8 : Int))) (mdN j (3 : Int)) (4 : Int) =
      getN a c d e f g h ix iy (mdN j (3 : Int)) (4 : Int))) = true →
              K (AV.bool false)) ∧
            ((!decide
    (getN (aP a w (mdN j (3 : Int)) (mdN k (8 : Int))) (cP c w (mdN j (3 : Int)) (mdN k (8 : Int)))
        (dP d w (mdN j (3 : Int)) (mdN k (8 : Int))) (eP e w (mdN j (3 : Int)) (mdN k (8 : Int)))
        (fP f w (mdN j (3 : Int)) (mdN k (8 : Int))) (gP g w (mdN j (3 : Int)) (mdN k (8 : Int)))
        (hP h w (mdN j (3 : Int)) (mdN k (8 : Int))) (ixP ix w (mdN j (3 : Int)) (mdN k (8 : Int)))
        (iyP iy w (mdN j (3 : Int)) (mdN k (8 : Int))) (mdN j (3 : Int)) (4 : Int) =
      getN a c d e f g h ix iy (mdN j (3 : Int)) (4 : Int))) = false →
              ((!decide
    (getN (aP a w (mdN j (3 : Int)) (mdN k (8 : Int))) (cP c w (mdN j (3 : Int)) (mdN k (8 : Int)))
        (dP d w (mdN j (3 : Int)) (mdN k (8 : Int))) (eP e w (mdN j (3 : Int)) (mdN k (8 : Int)))
        (fP f w (mdN j (3 : Int)) (mdN k (8 : Int))) (gP g w (mdN j (3 : Int)) (mdN k (8 : Int)))
        (hP h w (mdN j (3 : Int)) (mdN k (8 : Int))) (ixP ix w (mdN j (3 : Int)) (mdN k (8 : Int)))
        (iyP iy w (mdN j (3 : Int)) (mdN k (8 : Int))) (mdN j (3 : Int)) (5 : Int) =
      getN a c d e f g h ix iy (mdN j (3 : Int)) (5 : Int))) = true →
                K (AV.bool false)) ∧
              ((!decide
    (getN (aP a w (mdN j (3 : Int)) (mdN k (8 : Int))) (cP c w (mdN j (3 : Int)) (mdN k (8 : Int)))
        (dP d w (mdN j (3 : Int)) (mdN k (8 : Int))) (eP e w (mdN j (3 : Int)) (mdN k (8 : Int)))
        (fP f w (mdN j (3 : Int)) (mdN k (8 : Int))) (gP g w (mdN j (3 : Int)) (mdN k (8 : Int)))
        (hP h w (mdN j (3 : Int)) (mdN k (8 : Int))) (ixP ix w (mdN j (3 : Int)) (mdN k (8 : Int)))
        (iyP iy w (mdN j (3 : Int)) (mdN k (8 : Int))) (mdN j (3 : Int)) (5 : Int) =
      getN a c d e f g h ix iy (mdN j (3 : Int)) (5 : Int))) = false →
                ((!decide
    (getN (aP a w (mdN j (3 : Int)) (mdN k (8 : Int))) (cP c w (mdN j (3 : Int)) (mdN k (8 : Int)))
        (dP d w (mdN j (3 : Int)) (mdN k (8 : Int))) (eP e w (mdN j (3 : Int)) (mdN k (8 : Int)))
        (fP f w (mdN j (3 : Int)) (mdN k (8 : Int))) (gP g w (mdN j (3 : Int)) (mdN k (8 : Int)))
        (hP h w (mdN j (3 : Int)) (mdN k (8 : Int))) (ixP ix w (mdN j (3 : Int)) (mdN k (8 : Int)))
        (iyP iy w (mdN j (3 : Int)) (mdN k (8 : Int))) (mdN j (3 : Int)) (7 : Int) =
      getN a c d e f g h ix iy (mdN j (3 : Int)) (7 : Int))) = true →
                  K (AV.bool false)) ∧
                ((!decide
    (getN (aP a w (mdN j (3 : Int)) (mdN k (8 : Int))) (cP c w (mdN j (3 : Int)) (mdN k (8 : Int)))
        (dP d w (mdN j (3 : Int)) (mdN k (8 : Int))) (eP e w (mdN j (3 : Int)) (mdN k (8 : Int)))
        (fP f w (mdN j (3 : Int)) (mdN k (8 : Int))) (gP g w (mdN j (3 : Int)) (mdN k (8 : Int)))
        (hP h w (mdN j (3 : Int)) (mdN k (8 : Int))) (ixP ix w (mdN j (3 : Int)) (mdN k (8 : Int)))
        (iyP iy w (mdN j (3 : Int)) (mdN k (8 : Int))) (mdN j (3 : Int)) (7 : Int) =
      getN a c d e f g h ix iy (mdN j (3 : Int)) (7 : Int))) = false →
                  (decide (mdN k (8 : Int) = (6 : Int))) = true ∧
                  (((!decide
    (pairN (aQ a s y (mdN j (3 : Int)) (mdN k (4 : Int))) (bQ b s y (mdN j (3 : Int)) (mdN k (4 : Int)))
        (cQ c s y (mdN j (3 : Int)) (mdN k (4 : Int))) (dQ d s y (mdN j (3 : Int)) (mdN k (4 : Int)))
        (eQ e s y (mdN j (3 : Int)) (mdN k (4 : Int))) (fQ f s y (mdN j (3 : Int)) (mdN k (4 : Int)))
        (gQ g s y (mdN j (3 : Int)) (mdN k (4 : Int))) (hQ h s y (mdN j (3 : Int)) (mdN k (4 : Int)))
        (ixQ ix s y (mdN j (3 : Int)) (mdN k (4 : Int))) (iyQ iy s y (mdN j (3 : Int)) (mdN k (4 : Int)))
        (spQ sp s y (mdN j (3 : Int)) (mdN k (4 : Int))) s (mdN j (3 : Int)) (mdN k (4 : Int)) =
      y)) = true →
                    K (AV.bool false)) ∧
                  ((!decide
    (pairN (aQ a s y (mdN j (3 : Int)) (mdN k (4 : Int))) (bQ b s y (mdN j (3 : Int)) (mdN k (4 : Int)))
        (cQ c s y (mdN j (3 : Int)) (mdN k (4 : Int))) (dQ d s y (mdN j (3 : Int)) (mdN k (4 : Int)))
        (eQ e s y (mdN j (3 : Int)) (mdN k (4 : Int))) (fQ f s y (mdN j (3 : Int)) (mdN k (4 : Int)))
        (gQ g s y (mdN j (3 : Int)) (mdN k (4 : Int))) (hQ h s y (mdN j (3 : Int)) (mdN k (4 : Int)))
        (ixQ ix s y (mdN j (3 : Int)) (mdN k (4 : Int))) (iyQ iy s y (mdN j (3 : Int)) (mdN k (4 : Int)))
        (spQ sp s y (mdN j (3 : Int)) (mdN k (4 : Int))) s (mdN j (3 : Int)) (mdN k (4 : Int)) =
      y)) = false →
                    ((!decide
    (pairN (aQ a s y (mdN j (3 : Int)) (mdN k (4 : Int))) (bQ b s y (mdN j (3 : Int)) (mdN k (4 : Int)))
        (cQ c s y (mdN j (3 : Int)) (mdN k (4 : Int))) (dQ d s y (mdN j (3 : Int)) (mdN k (4 : Int)))
        (eQ e s y (mdN j (3 : Int)) (mdN k (4 : Int))) (fQ f s y (mdN j (3 : Int)) (mdN k (4 : Int)))
        (gQ g s y (mdN j (3 : Int)) (mdN k (4 : Int))) (hQ h s y (mdN j (3 : Int)) (mdN k (4 : Int)))
        (ixQ ix s y (mdN j (3 : Int)) (mdN k (4 : Int))) (iyQ iy s y (mdN j (3 : Int)) (mdN k (4 : Int)))
        (spQ sp s y (mdN j (3 : Int)) (mdN k (4 : Int))) s (mdN j (3 : Int)) (0 : Int) =
      pairN a b c d e f g h ix iy sp s (mdN j (3 : Int)) (0 : Int))) = true →
                      K (AV.bool false)) ∧
                    ((!decide
    (pairN (aQ a s y (mdN j (3 : Int)) (mdN k (4 : Int))) (bQ b s y (mdN j (3 : Int)) (mdN k (4 : Int)))
        (cQ c s y (mdN j (3 : Int)) (mdN k (4 : Int))) (dQ d s y (mdN j (3 : Int)) (mdN k (4 : Int)))
        (eQ e s y (mdN j (3 : Int)) (mdN k (4 : Int))) (fQ f s y (mdN j (3 : Int)) (mdN k (4 : Int)))
        (gQ g s y (mdN j (3 : Int)) (mdN k (4 : Int))) (hQ h s y (mdN j (3 : Int)) (mdN k (4 : Int)))
        (ixQ ix s y (mdN j (3 : Int)) (mdN k (4 : Int))) (iyQ iy s y (mdN j (3 : Int)) (mdN k (4 : Int)))
        (spQ sp s y (mdN j (3 : Int)) (mdN k (4 : Int))) s (mdN j (3 : Int)) (0 : Int) =
      pairN a b c d e f g h ix iy sp s (mdN j (3 : Int)) (0 : Int))) = false →
                      ((!decide
    (pairN (aQ a s y (mdN j (3 : Int)) (mdN k (4 : Int))) (bQ b s y (mdN j (3 : Int)) (mdN k (4 : Int)))
        (cQ c s y (mdN j (3 : Int)) (mdN k (4 : Int))) (dQ d s y (mdN j (3 : Int)) (mdN k (4 : Int)))
        (eQ e s y (mdN j (3 : Int)) (mdN k (4 : Int))) (fQ f s y (mdN j (3 : Int)) (mdN k (4 : Int)))
        (gQ g s y (mdN j (3 : Int)) (mdN k (4 : Int))) (hQ h s y (mdN j (3 : Int)) (mdN k (4 : Int)))
        (ixQ ix s y (mdN j (3 : Int)) (mdN k (4 : Int))) (iyQ iy s y (mdN j (3 : Int)) (mdN k (4 : Int)))
        (spQ sp s y (mdN j (3 : Int)) (mdN k (4 : Int))) s (mdN j (3 : Int)) (1 : Int) =
      pairN a b c d e f g h ix iy sp s (mdN j (3 : Int)) (1 : Int))) = true →
                        K (AV.bool false)) ∧
                      ((!decide
    (pairN (aQ a s y (mdN j (3 : Int)) (mdN k (4 : Int))) (bQ b s y (mdN j (3 : Int)) (mdN k (4 : Int)))
        (cQ c s y (mdN j (3 : Int)) (mdN k (4 : Int))) (dQ d s y (mdN j (3 : Int)) (mdN k (4 : Int)))
        (eQ e s y (mdN j (3 : Int)) (mdN k (4 : Int))) (fQ f s y (mdN j (3 : Int)) (mdN k (4 : Int)))
        (gQ g s y (mdN j (3 : Int)) (mdN k (4 : Int))) (hQ h s y (mdN j (3 : Int)) (mdN k (4 : Int)))
        (ixQ ix s y (mdN j (3 : Int)) (mdN k (4 : Int))) (iyQ iy s y (mdN j (3 : Int)) (mdN k (4 : Int)))
        (spQ sp s y (mdN j (3 : Int)) (mdN k (4 : Int))) s (mdN j (3 : Int)) (1 : Int) =
      pairN a b c d e f g h ix iy sp s (mdN j (3 : Int)) (1 : Int))) = false →
                        ((!decide
    (pairN (aQ a s y (mdN j (3 : Int)) (mdN k (4 : Int))) (bQ b s y (mdN j (3 : Int)) (mdN k (4 : Int)))
        (cQ c s y (mdN j (3 : Int)) (mdN k (4 : Int))) (dQ d s y (mdN j (3 : Int)) (mdN k (4 : Int)))
        (eQ e s y (mdN j (3 : Int)) (mdN k (4 : Int))) (fQ f s y (mdN j (3 : Int)) (mdN k (4 : Int)))
        (gQ g s y (mdN j (3 : Int)) (mdN k (4 : Int))) (hQ h s y (mdN j (3 : Int)) (mdN k (4 : Int)))
        (ixQ ix s y (mdN j (3 : Int)) (mdN k (4 : Int))) (iyQ iy s y (mdN j (3 : Int)) (mdN k (4 : Int)))
        (spQ sp s y (mdN j (3 : Int)) (mdN k (4 : Int))) s (mdN j (3 : Int)) (3 : Int) =
      pairN a b c d e f g h ix iy sp s (mdN j (3 : Int)) (3 : Int))) = true →
                          K (AV.bool false)) ∧
                        ((!decide
    (pairN (aQ a s y (mdN j (3 : Int)) (mdN k (4 : Int))) (bQ b s y (mdN j (3 : Int)) (mdN k (4 : Int)))
        (cQ c s y (mdN j (3 : Int)) (mdN k (4 : Int))) (dQ d s y (mdN j (3 : Int)) (mdN k (4 : Int)))
        (eQ e s y (mdN j (3 : Int)) (mdN k (4 : Int))) (fQ f s y (mdN j (3 : Int)) (mdN k (4 : Int)))
        (gQ g s y (mdN j (3 : Int)) (mdN k (4 : Int))) (hQ h s y (mdN j (3 : Int)) (mdN k (4 : Int)))
        (ixQ ix s y (mdN j (3 : Int)) (mdN k (4 : Int))) (iyQ iy s y (mdN j (3 : Int)) (mdN k (4 : Int)))
        (spQ sp s y (mdN j (3 : Int)) (mdN k (4 : Int))) s (mdN j (3 : Int)) (3 : Int) =
      pairN a b c d e f g h ix iy sp s (mdN j (3 : Int)) (3 : Int))) = false →
                          ((!decide
    (bits BinOp.or IntKind.u16
        (IntKind.wrap IntKind.u16
          (IntKind.wrap IntKind.u16
              (getN (aQ a s y (mdN j (3 : Int)) (mdN k (4 : Int))) (cQ c s y (mdN j (3 : Int)) (mdN k (4 : Int)))
                (dQ d s y (mdN j (3 : Int)) (mdN k (4 : Int))) (eQ e s y (mdN j (3 : Int)) (mdN k (4 : Int)))
                (fQ f s y (mdN j (3 : Int)) (mdN k (4 : Int))) (gQ g s y (mdN j (3 : Int)) (mdN k (4 : Int)))
                (hQ h s y (mdN j (3 : Int)) (mdN k (4 : Int))) (ixQ ix s y (mdN j (3 : Int)) (mdN k (4 : Int)))
                (iyQ iy s y (mdN j (3 : Int)) (mdN k (4 : Int))) (mdN j (3 : Int)) (0 : Int)) *
            (256 : Int)))
        (IntKind.wrap IntKind.u16
          (getN (aQ a s y (mdN j (3 : Int)) (mdN k (4 : Int))) (cQ c s y (mdN j (3 : Int)) (mdN k (4 : Int)))
            (dQ d s y (mdN j (3 : Int)) (mdN k (4 : Int))) (eQ e s y (mdN j (3 : Int)) (mdN k (4 : Int)))
            (fQ f s y (mdN j (3 : Int)) (mdN k (4 : Int))) (gQ g s y (mdN j (3 : Int)) (mdN k (4 : Int)))
            (hQ h s y (mdN j (3 : Int)) (mdN k (4 : Int))) (ixQ ix s y (mdN j (3 : Int)) (mdN k (4 : Int)))
            (iyQ iy s y (mdN j (3 : Int)) (mdN k (4 : Int))) (mdN j (3 : Int)) (1 : Int))) =
      pairN (aQ a s y (mdN j (3 : Int)) (mdN k (4 : Int))) (bQ b s y (mdN j (3 : Int)) (mdN k (4 : Int)))
        (cQ c s y (mdN j (3 : Int)) (mdN k (4 : Int))) (dQ d s y (mdN j (3 : Int)) (mdN k (4 : Int)))
        (eQ e s y (mdN j (3 : Int)) (mdN k (4 : Int))) (fQ f s y (mdN j (3 : Int)) (mdN k (4 : Int)))
        (gQ g s y (mdN j (3 : Int)) (mdN k (4 : Int))) (hQ h s y (mdN j (3 : Int)) (mdN k (4 : Int)))
        (ixQ ix s y (mdN j (3 : Int)) (mdN k (4 : Int))) (iyQ iy s y (mdN j (3 : Int)) (mdN k (4 : Int)))
        (spQ sp s y (mdN j (3 : Int)) (mdN k (4 : Int))) s (mdN j (3 : Int)) (0 : Int))) = true →
                            K (AV.bool false)) ∧
                          ((!decide
    (bits BinOp.or IntKind.u16
        (IntKind.wrap IntKind.u16
          (IntKind.wrap IntKind.u16
              (getN (aQ a s y (mdN j (3 : Int)) (mdN k (4 : Int))) (cQ c s y (mdN j (3 : Int)) (mdN k (4 : Int)))
                (dQ d s y (mdN j (3 : Int)) (mdN k (4 : Int))) (eQ e s y (mdN j (3 : Int)) (mdN k (4 : Int)))
                (fQ f s y (mdN j (3 : Int)) (mdN k (4 : Int))) (gQ g s y (mdN j (3 : Int)) (mdN k (4 : Int)))
                (hQ h s y (mdN j (3 : Int)) (mdN k (4 : Int))) (ixQ ix s y (mdN j (3 : Int)) (mdN k (4 : Int)))
                (iyQ iy s y (mdN j (3 : Int)) (mdN k (4 : Int))) (mdN j (3 : Int)) (0 : Int)) *
            (256 : Int)))
        (IntKind.wrap IntKind.u16
          (getN (aQ a s y (mdN j (3 : Int)) (mdN k (4 : Int))) (cQ c s y (mdN j (3 : Int)) (mdN k (4 : Int)))
            (dQ d s y (mdN j (3 : Int)) (mdN k (4 : Int))) (eQ e s y (mdN j (3 : Int)) (mdN k (4 : Int)))
            (fQ f s y (mdN j (3 : Int)) (mdN k (4 : Int))) (gQ g s y (mdN j (3 : Int)) (mdN k (4 : Int)))
            (hQ h s y (mdN j (3 : Int)) (mdN k (4 : Int))) (ixQ ix s y (mdN j (3 : Int)) (mdN k (4 : Int)))
            (iyQ iy s y (mdN j (3 : Int)) (mdN k (4 : Int))) (mdN j (3 : Int)) (1 : Int))) =
      pairN (aQ a s y (mdN j (3 : Int)) (mdN k (4 : Int))) (bQ b s y (mdN j (3 : Int)) (mdN k (4 : Int)))
        (cQ c s y (mdN j (3 : Int)) (mdN k (4 : Int))) (dQ d s y (mdN j (3 : Int)) (mdN k (4 : Int)))
        (eQ e s y (mdN j (3 : Int)) (mdN k (4 : Int))) (fQ f s y (mdN j (3 : Int)) (mdN k (4 : Int)))
        (gQ g s y (mdN j (3 : Int)) (mdN k (4 : Int))) (hQ h s y (mdN j (3 : Int)) (mdN k (4 : Int)))
        (ixQ ix s y (mdN j (3 : Int)) (mdN k (4 : Int))) (iyQ iy s y (mdN j (3 : Int)) (mdN k (4 : Int)))
        (spQ sp s y (mdN j (3 : Int)) (mdN k (4 : Int))) s (mdN j (3 : Int)) (0 : Int))) = false →
                            ((!decide
    (bits BinOp.or IntKind.u16
        (IntKind.wrap IntKind.u16
          (IntKind.wrap IntKind.u16
              (getN (aQ a s y (mdN j (3 : Int)) (mdN k (4 : Int))) (cQ c s y (mdN j (3 : Int)) (mdN k (4 : Int)))
                (dQ d s y (mdN j (3 : Int)) (mdN k (4 : Int))) (eQ e s y (mdN j (3 : Int)) (mdN k (4 : Int)))
                (fQ f s y (mdN j (3 : Int)) (mdN k (4 : Int))) (gQ g s y (mdN j (3 : Int)) (mdN k (4 : Int)))
                (hQ h s y (mdN j (3 : Int)) (mdN k (4 : Int))) (ixQ ix s y (mdN j (3 : Int)) (mdN k (4 : Int)))
                (iyQ iy s y (mdN j (3 : Int)) (mdN k (4 : Int))) (mdN j (3 : Int)) (2 : Int)) *
            (256 : Int)))
        (IntKind.wrap IntKind.u16
          (getN (aQ a s y (mdN j (3 : Int)) (mdN k (4 : Int))) (cQ c s y (mdN j (3 : Int)) (mdN k (4 : Int)))
            (dQ d s y (mdN j (3 : Int)) (mdN k (4 : Int))) (eQ e s y (mdN j (3 : Int)) (mdN k (4 : Int)))
            (fQ f s y (mdN j (3 : Int)) (mdN k (4 : Int))) (gQ g s y (mdN j (3 : Int)) (mdN k (4 : Int)))
            (hQ h s y (mdN j (3 : Int)) (mdN k (4 : Int))) (ixQ ix s y (mdN j (3 : Int)) (mdN k (4 : Int)))
            (iyQ iy s y (mdN j (3 : Int)) (mdN k (4 : Int))) (mdN j (3 : Int)) (3 : Int))) =
      pairN (aQ a s y (mdN j (3 : Int)) (mdN k (4 : Int))) (bQ b s y (mdN j (3 : Int)) (mdN k (4 : Int)))
        (cQ c s y (mdN j (3 : Int)) (mdN k (4 : Int))) (dQ d s y (mdN j (3 : Int)) (mdN k (4 : Int)))
        (eQ e s y (mdN j (3 : Int)) (mdN k (4 : Int))) (fQ f s y (mdN j (3 : Int)) (mdN k (4 : Int)))
        (gQ g s y (mdN j (3 : Int)) (mdN k (4 : Int))) (hQ h s y (mdN j (3 : Int)) (mdN k (4 : Int)))
        (ixQ ix s y (mdN j (3 : Int)) (mdN k (4 : Int))) (iyQ iy s y (mdN j (3 : Int)) (mdN k (4 : Int)))
        (spQ sp s y (mdN j (3 : Int)) (mdN k (4 : Int))) s (mdN j (3 : Int)) (1 : Int))) = true →
                              K (AV.bool false)) ∧
                            ((!decide
    (bits BinOp.or IntKind.u16
        (IntKind.wrap IntKind.u16
          (IntKind.wrap IntKind.u16
              (getN (aQ a s y (mdN j (3 : Int)) (mdN k (4 : Int))) (cQ c s y (mdN j (3 : Int)) (mdN k (4 : Int)))
                (dQ d s y (mdN j (3 : Int)) (mdN k (4 : Int))) (eQ e s y (mdN j (3 : Int)) (mdN k (4 : Int)))
                (fQ f s y (mdN j (3 : Int)) (mdN k (4 : Int))) (gQ g s y (mdN j (3 : Int)) (mdN k (4 : Int)))
                (hQ h s y (mdN j (3 : Int)) (mdN k (4 : Int))) (ixQ ix s y (mdN j (3 : Int)) (mdN k (4 : Int)))
                (iyQ iy s y (mdN j (3 : Int)) (mdN k (4 : Int))) (mdN j (3 : Int)) (2 : Int)) *
            (256 : Int)))
        (IntKind.wrap IntKind.u16
          (getN (aQ a s y (mdN j (3 : Int)) (mdN k (4 : Int))) (cQ c s y (mdN j (3 : Int)) (mdN k (4 : Int)))
            (dQ d s y (mdN j (3 : Int)) (mdN k (4 : Int))) (eQ e s y (mdN j (3 : Int)) (mdN k (4 : Int)))
            (fQ f s y (mdN j (3 : Int)) (mdN k (4 : Int))) (gQ g s y (mdN j (3 : Int)) (mdN k (4 : Int)))
            (hQ h s y (mdN j (3 : Int)) (mdN k (4 : Int))) (ixQ ix s y (mdN j (3 : Int)) (mdN k (4 : Int)))
            (iyQ iy s y (mdN j (3 : Int)) (mdN k (4 : Int))) (mdN j (3 : Int)) (3 : Int))) =
      pairN (aQ a s y (mdN j (3 : Int)) (mdN k (4 : Int))) (bQ b s y (mdN j (3 : Int)) (mdN k (4 : Int)))
        (cQ c s y (mdN j (3 : Int)) (mdN k (4 : Int))) (dQ d s y (mdN j (3 : Int)) (mdN k (4 : Int)))
        (eQ e s y (mdN j (3 : Int)) (mdN k (4 : Int))) (fQ f s y (mdN j (3 : Int)) (mdN k (4 : Int)))
        (gQ g s y (mdN j (3 : Int)) (mdN k (4 : Int))) (hQ h s y (mdN j (3 : Int)) (mdN k (4 : Int)))
        (ixQ ix s y (mdN j (3 : Int)) (mdN k (4 : Int))) (iyQ iy s y (mdN j (3 : Int)) (mdN k (4 : Int)))
        (spQ sp s y (mdN j (3 : Int)) (mdN k (4 : Int))) s (mdN j (3 : Int)) (1 : Int))) = false →
                              ((!decide
    (bits BinOp.or IntKind.u16
        (IntKind.wrap IntKind.u16
          (IntKind.wrap IntKind.u16
              (getN (aQ a s y (mdN j (3 : Int)) (mdN k (4 : Int))) (cQ c s y (mdN j (3 : Int)) (mdN k (4 : Int)))
                (dQ d s y (mdN j (3 : Int)) (mdN k (4 : Int))) (eQ e s y (mdN j (3 : Int)) (mdN k (4 : Int)))
                (fQ f s y (mdN j (3 : Int)) (mdN k (4 : Int))) (gQ g s y (mdN j (3 : Int)) (mdN k (4 : Int)))
                (hQ h s y (mdN j (3 : Int)) (mdN k (4 : Int))) (ixQ ix s y (mdN j (3 : Int)) (mdN k (4 : Int)))
                (iyQ iy s y (mdN j (3 : Int)) (mdN k (4 : Int))) (mdN j (3 : Int)) (4 : Int)) *
            (256 : Int)))
        (IntKind.wrap IntKind.u16
          (getN (aQ a s y (mdN j (3 : Int)) (mdN k (4 : Int))) (cQ c s y (mdN j (3 : Int)) (mdN k (4 : Int)))
            (dQ d s y (mdN j (3 : Int)) (mdN k (4 : Int))) (eQ e s y (mdN j (3 : Int)) (mdN k (4 : Int)))
            (fQ f s y (mdN j (3 : Int)) (mdN k (4 : Int))) (gQ g s y (mdN j (3 : Int)) (mdN k (4 : Int)))
            (hQ h s y (mdN j (3 : Int)) (mdN k (4 : Int))) (ixQ ix s y (mdN j (3 : Int)) (mdN k (4 : Int)))
            (iyQ iy s y (mdN j (3 : Int)) (mdN k (4 : Int))) (mdN j (3 : Int)) (5 : Int))) =
      pairN (aQ a s y (mdN j (3 : Int)) (mdN k (4 : Int))) (bQ b s y (mdN j (3 : Int)) (mdN k (4 : Int)))
        (cQ c s y (mdN j (3 : Int)) (mdN k (4 : Int))) (dQ d s y (mdN j (3 : Int)) (mdN k (4 : Int)))
        (eQ e s y (mdN j (3 : Int)) (mdN k (4 : Int))) (fQ f s y (mdN j (3 : Int)) (mdN k (4 : Int)))
        (gQ g s y (mdN j (3 : Int)) (mdN k (4 : Int))) (hQ h s y (mdN j (3 : Int)) (mdN k (4 : Int)))
        (ixQ ix s y (mdN j (3 : Int)) (mdN k (4 : Int))) (iyQ iy s y (mdN j (3 : Int)) (mdN k (4 : Int)))
        (spQ sp s y (mdN j (3 : Int)) (mdN k (4 : Int))) s (mdN j (3 : Int)) (2 : Int))) = true →
                                K (AV.bool false)) ∧
                              ((!decide
    (bits BinOp.or IntKind.u16
        (IntKind.wrap IntKind.u16
          (IntKind.wrap IntKind.u16
              (getN (aQ a s y (mdN j (3 : Int)) (mdN k (4 : Int))) (cQ c s y (mdN j (3 : Int)) (mdN k (4 : Int)))
                (dQ d s y (mdN j (3 : Int)) (mdN k (4 : Int))) (eQ e s y (mdN j (3 : Int)) (mdN k (4 : Int)))
                (fQ f s y (mdN j (3 : Int)) (mdN k (4 : Int))) (gQ g s y (mdN j (3 : Int)) (mdN k (4 : Int)))
                (hQ h s y (mdN j (3 : Int)) (mdN k (4 : Int))) (ixQ ix s y (mdN j (3 : Int)) (mdN k (4 : Int)))
                (iyQ iy s y (mdN j (3 : Int)) (mdN k (4 : Int))) (mdN j (3 : Int)) (4 : Int)) *
            (256 : Int)))
        (IntKind.wrap IntKind.u16
          (getN (aQ a s y (mdN j (3 : Int)) (mdN k (4 : Int))) (cQ c s y (mdN j (3 : Int)) (mdN k (4 : Int)))
            (dQ d s y (mdN j (3 : Int)) (mdN k (4 : Int))) (eQ e s y (mdN j (3 : Int)) (mdN k (4 : Int)))
            (fQ f s y (mdN j (3 : Int)) (mdN k (4 : Int))) (gQ g s y (mdN j (3 : Int)) (mdN k (4 : Int)))
            (hQ h s y (mdN j (3 : Int)) (mdN k (4 : Int))) (ixQ ix s y (mdN j (3 : Int)) (mdN k (4 : Int)))
            (iyQ iy s y (mdN j (3 : Int)) (mdN k (4 : Int))) (mdN j (3 : Int)) (5 : Int))) =
      pairN (aQ a s y (mdN j (3 : Int)) (mdN k (4 : Int))) (bQ b s y (mdN j (3 : Int)) (mdN k (4 : Int)))
        (cQ c s y (mdN j (3 : Int)) (mdN k (4 : Int))) (dQ d s y (mdN j (3 : Int)) (mdN k (4 : Int)))
        (eQ e s y (mdN j (3 : Int)) (mdN k (4 : Int))) (fQ f s y (mdN j (3 : Int)) (mdN k (4 : Int)))
        (gQ g s y (mdN j (3 : Int)) (mdN k (4 : Int))) (hQ h s y (mdN j (3 : Int)) (mdN k (4 : Int)))
        (ixQ ix s y (mdN j (3 : Int)) (mdN k (4 : Int))) (iyQ iy s y (mdN j (3 : Int)) (mdN k (4 : Int)))
        (spQ sp s y (mdN j (3 : Int)) (mdN k (4 : Int))) s (mdN j (3 : Int)) (2 : Int))) = false →
                                K (AV.bool true))))))))))))))))))
def al6_scr : Plan := .k (.t (.k (.b (.z) (.k (.k (.k (.k (.k (.k (.k (.k (.k (.k (.k (.b (.z) (.k (.k (.k (.k (.k (.k (.k (.k (.k (.k (.k (.b (.z) (.k (.k (.k (.k (.k (.k (.k (.k (.k (.k (.k (.b (.z) (.k (.k (.k (.k (.k (.k (.k (.k (.k (.k (.k (.b (.z) (.k (.k (.k (.k (.k (.k (.k (.k (.k (.k (.k (.b (.z) (.k (.k (.k (.k (.k (.k (.k (.k (.k (.k (.k (.b (.z) (.k (.k (.k (.k (.k (.k (.k (.k (.k (.k (.k (.k (.k (.k (.k (.k (.k (.k (.k (.k (.k (.k (.k (.b (.z) (.k (.t (.b (.z) (.k (.k (.k (.k (.k (.k (.k (.k (.k (.k (.k (.k (.k (.b (.z) (.k (.k (.k (.k (.k (.k (.k (.k (.k (.k (.k (.k (.k (.b (.z) (.k (.k (.k (.k (.k (.k (.k (.k (.k (.k (.k (.k (.k (.k (.k (.k (.k (.k (.k (.k (.k (.k (.k (.k (.k (.k (.k (.b (.z) (.k (.k (.b (.z) (.k (.b (.z) (.k (.b (.z) (.z))))))))))))))))))))))))))))))))))))))))))))))))))))))))))))))))))))))))))))))))))))))))))))))))))))))))))))))))))))))))))))))))))))))))))))))))))))))))))))))))))))))
theorem al6_vc (a b c d e f g h i r ix iy sp pc wz af bc de hl im : Int) (p q u v : Bool) (j k : Int) (s : Bool) (w y : Int) (K : AV → Prop) : (funP (XL 6) 4 [.agg [.int .u8 a, .int .u8 b, .int .u8 c, .int .u8 d, .int .u8 e, .int .u8 f, .int .u8 g, .int .u8 h, .int .u8 i, .int .u8 r, .int .u16 ix, .int .u16 iy, .int .u16 sp, .int .u16 pc, .int .u16 wz, .int .u16 af, .int .u16 bc, .int .u16 de, .int .u16 hl, .bool p, .bool q, .int .i64 im, .bool u, .bool v], .int .i64 j, .int .i64 k, .bool s, .int .u8 w, .int .u16 y] h0 al6_scr (fun v _ _ => K v)) = al6_VC a b c d e f g h i r ix iy sp pc wz af bc de hl im p q u v j k s w y K := by kernel_rfl
def al7_VC (a b c d e f g h i r ix iy sp pc wz af bc de hl im : Int) (p q u v : Bool) (j k : Int) (s : Bool) (w y : Int) (K : AV → Prop) : Prop :=
  (decide (mdN k (8 : Int) = (7 : Int))) = true ∧
  (((!decide
    (getN (aP a w (mdN j (3 : Int)) (mdN k (8 : Int))) (cP c w (mdN j (3 : Int)) (mdN k (8 : Int)))
        (dP d w (mdN j (3 : Int)) (mdN k (8 : Int))) (eP e w (mdN j (3 : Int)) (mdN k (8 : Int)))
        (fP f w (mdN j (3 : Int)) (mdN k (8 : Int))) (gP g w (mdN j (3 : Int)) (mdN k (8 : Int)))
        (hP h w (mdN j (3 : Int)) (mdN k (8 : Int))) (ixP ix w (mdN j (3 : Int)) (mdN k (8 : Int)))
        (iyP iy w (mdN j (3 : Int)) (mdN k (8 : Int))) (mdN j (3 : Int)) (mdN k (8 : Int)) =
      w)) = true →
    K (AV.bool false)) ∧
  ((!decide
    (getN (aP a w (mdN j (3 : Int)) (mdN k (8 : Int))) (cP c w (mdN j (3 : Int)) (mdN k (8 : Int)))
        (dP d w (mdN j (3 : Int)) (mdN k (8 : Int))) (eP e w (mdN j (3 : Int)) (mdN k (8 : Int)))
        (fP f w (mdN j (3 : Int)) (mdN k (8 : Int))) (gP g w (mdN j (3 : Int)) (mdN k (8 : Int)))
        (hP h w (mdN j (3 : Int)) (mdN k (8 : Int))) (ixP ix w (mdN j (3 : Int)) (mdN k (8 : Int)))
        (iyP iy w (mdN j (3 : Int)) (mdN k (8 : Int))) (mdN j (3 : Int)) (mdN k (8 : Int)) =
      w)) = false →
    ((!decide
    (getN (aP a w (mdN j (3 : Int)) (mdN k (8 : Int))) (cP c w (mdN j (3 : Int)) (mdN k (8 : Int)))
        (dP d w (mdN j (3 : Int)) (mdN k (8 : Int))) (eP e w (mdN j (3 : Int)) (mdN k (8 : Int)))
        (fP f w (mdN j (3 : Int)) (mdN k (8 : Int))) (gP g w (mdN j (3 : Int)) (mdN k (8 : Int)))
        (hP h w (mdN j (3 : Int)) (mdN k (8 : Int))) (ixP ix w (mdN j (3 : Int)) (mdN k (8 : Int)))
        (iyP iy w (mdN j (3 : Int)) (mdN k (8 : Int))) (mdN j (3 : Int)) (0 : Int) =
      getN a c d e f g h ix iy (mdN j (3 : Int)) (0 : Int))) = true →
      K (AV.bool false)) ∧
    ((!decide
    (getN (aP a w (mdN j (3 : Int)) (mdN k (8 : Int))) (cP c w (mdN j (3 : Int)) (mdN k (8 : Int)))
        (dP d w (mdN j (3 : Int)) (mdN k (8 : Int))) (eP e w (mdN j (3 : Int)) (mdN k (8 : Int)))
        (fP f w (mdN j (3 : Int)) (mdN k (8 : Int))) (gP g w (mdN j (3 : Int)) (mdN k (8 : Int)))
        (hP h w (mdN j (3 : Int)) (mdN k (8 : Int))) (ixP ix w (mdN j (3 : Int)) (mdN k (8 : Int)))
        (iyP iy w (mdN j (3 : Int)) (mdN k (8 : Int))) (mdN j (3 : Int)) (0 : Int) =
      getN a c d e f g h ix iy (mdN j (3 : Int)) (0 : Int))) = false →
      ((!decide
    (getN (aP a w (mdN j (3 : Int)) (mdN k (8 : Int))) (cP c w (mdN j (3 : Int)) (mdN k (8 : Int)))
        (dP d w (mdN j (3 : Int)) (mdN k (8 : Int))) (eP e w (mdN j (3 : Int)) (mdN k (8 : Int)))
        (fP f w (mdN j (3 : Int)) (mdN k (8 : Int))) (gP g w (mdN j (3 : Int)) (mdN k (8 : Int)))
        (hP h w (mdN j (3 : Int)) (mdN k (8 : Int))) (ixP ix w (mdN j (3 : Int)) (mdN k (8 : Int)))
        (iyP iy w (mdN j (3 : Int)) (mdN k (8 : Int))) (mdN j (3 : Int)) (1 : Int) =
      getN a c d e f g h ix iy (mdN j (3 : Int)) (1 : Int))) = true →
        K (AV.bool false)) ∧
      ((!decide
    (getN (aP a w (mdN j (3 : Int)) (mdN k (8 : Int))) (cP c w (mdN j (3 : Int)) (mdN k (8 : Int)))
        (dP d w (mdN j (3 : Int)) (mdN k (8 : Int))) (eP e w (mdN j (3 : Int)) (mdN k (8 : Int)))
        (fP f w (mdN j (3 : Int)) (mdN k (8 : Int))) (gP g w (mdN j (3 : Int)) (mdN k (8 : Int)))
        (hP h w (mdN j (3 : Int)) (mdN k (8 : Int))) (ixP ix w (mdN j (3 : Int)) (mdN k (8 : Int)))
        (iyP iy w (mdN j (3 : Int)) (mdN k (8 : Int))) (mdN j (3 : Int)) (1 : Int) =
      getN a c d e f g h ix iy (mdN j (3 : Int)) (1 : Int))) = false →
        ((!decide
    (getN (aP a w (mdN j (3 : Int)) (mdN k (8 : Int))) (cP c w (mdN j (3 : Int)) (mdN k (8 : Int)))
        (dP d w (mdN j (3 : Int)) (mdN k (8 : Int))) (eP e w (mdN j (3 : Int)) (mdN k (8 : Int)))
        (fP f w (mdN j (3 : Int)) (mdN k (8 : Int))) (gP g w (mdN j (3 : Int)) (mdN k (8 : Int)))
        (hP h w (mdN j (3 : Int)) (mdN k (8 : Int))) (ixP ix w (mdN j (3 : Int)) (mdN k (8 : Int)))
        (iyP iy w (mdN j (3 : Int)) (mdN k (8 : Int))) (mdN j (3 : Int)) (2 : Int) =
      getN a c d e f g h ix iy (mdN j (3 : Int)) (2 : Int))) = true →
          K (AV.bool false)) ∧
        ((!decide
    (getN (aP a w (mdN j (3 : Int)) (mdN k (8 : Int))) (cP c w (mdN j (3 : Int)) (mdN k (8 : Int)))
        (dP d w (mdN j (3 : Int)) (mdN k (8 : Int))) (eP e w (mdN j (3 : Int)) (mdN k (8 : Int)))
        (fP f w (mdN j (3 : Int)) (mdN k (8 : Int))) (gP g w (mdN j (3 : Int)) (mdN k (8 : Int)))
        (hP h w (mdN j (3 : Int)) (mdN k (8 : Int))) (ixP ix w (mdN j (3 : Int)) (mdN k (8 : Int)))
        (iyP iy w (mdN j (3 : Int)) (mdN k (8 : Int))) (mdN j (3 : Int)) (2 : Int) =
      getN a c d e f g h ix iy (mdN j (3 : Int)) (2 : Int))) = false →
          ((!decide
    (getN (aP a w (mdN j (3 : Int)) (mdN k (8 : Int))) (cP c w (mdN j (3 : Int)) (mdN k (8 : Int)))
        (dP d w (mdN j (3 : Int)) (mdN k (8 : Int))) (eP e w (mdN j (3 : Int)) (mdN k (8 : Int)))
        (fP f w (mdN j (3 : Int)) (mdN k (8 : Int))) (gP g w (mdN j (3 : Int)) (mdN k (8 : Int)))
        (hP h w (mdN j (3 : Int)) (mdN k (8 : Int))) (ixP ix w (mdN j (3 : Int)) (mdN k (8 : Int)))
        (iyP iy w (mdN j (3 : Int)) (mdN k (8 : Int))) (mdN j (3 : Int)) (3 : Int) =
      getN a c d e f g h ix iy (mdN j (3 : Int)) (3 : Int))) = true →
            K (AV.bool false)) ∧
          ((!decide
    (getN (aP a w (mdN j (3 : Int)) (mdN k (8 : Int))) (cP c w (mdN j (3 : Int)) (mdN k (8 : Int)))
        (dP d w (mdN j (3 : Int)) (mdN k (8 : Int))) (eP e w (mdN j (3 : Int)) (mdN k (8 : Int)))
        (fP f w (mdN j (3 : Int)) (mdN k (8 : Int))) (gP g w (mdN j (3 : Int)) (mdN k (8 : Int)))
        (hP h w (mdN j (3 : Int)) (mdN k (8 : Int))) (ixP ix w (mdN j (3 : Int)) (mdN k (8 : Int)))
        (iyP iy w (mdN j (3 : Int)) (mdN k (8 : Int))) (mdN j (3 : Int)) (3 : Int) =
      getN a c d e f g h ix iy (mdN j (3 : Int)) (3 : Int))) = false →
            ((!decide
    (getN (aP a w (mdN j (3 : Int)) (mdN k (8 : Int))) (cP c w (mdN j (3 : Int)) (mdN k (8 : Int)))
        (dP d w (mdN j (3 : Int)) (mdN k (8 : Int))) (eP e w (mdN j (3 : Int)) (mdN k (8 : Int)))
        (fP f w (mdN j (3 : Int)) (mdN k (8 : Int))) (gP g w (mdN j (3 : Int)) (mdN k (8 : Int)))
        (hP h w (mdN j (3 : Int)) (mdN k (8 : Int))) (ixP ix w (mdN j (3 : Int)) (mdN k (8 : Int)))
        (iyP iy w (mdN j (3 : Int)) (mdN k (8 : Int))) (mdN j (3 : Int)) (4 : Int) =
      getN a c d e f g h ix iy (mdN j (3 : Int)) (4 : Int))) = true →
              K (AV.bool false)) ∧
            ((!decide
    (getN (aP a w (mdN j (3 : Int)) (mdN k (8 : Int))) (cP c w (mdN j (3 : Int)) (mdN k (8 : Int)))
        (dP d w (mdN j (3 : Int)) (mdN k (8 : Int))) (eP e w (mdN j (3 : Int)) (mdN k (8 : Int)))
        (fP f w (mdN j (3 : Int)) (mdN k (8 : Int))) (gP g w (mdN j (3 : Int)) (mdN k (8 : Int)))
        (hP h w (mdN j (3 : Int)) (mdN k (8 : Int))) (ixP ix w (mdN j (3 : Int)) (mdN k (8 : Int)))
        (iyP iy w (mdN j (3 : Int)) (mdN k (8 : Int))) (mdN j (3 : Int)) (4 : Int) =
      getN a c d e f g h ix iy (mdN j (3 : Int)) (4 : Int))) = false →
              ((!decide
    (getN (aP a w (mdN j (3 : Int)) (mdN k (8 : Int))) (cP c w (mdN j (3 : Int)) (mdN k (8 : Int)))
        (dP d w (mdN j (3 : Int)) (mdN k (8 : Int))) (eP e w (mdN j (3 : Int)) (mdN k (8 : Int)))
        (fP f w (mdN j (3 : Int)) (mdN k (8 : Int))) (gP g w (mdN j (3 : Int)) (mdN k (8 : Int)))
        (hP h w (mdN j (3 : Int)) (mdN k (8 : Int))) (ixP ix w (mdN j (3 : Int)) (mdN k (8 : Int)))
        (iyP iy w (mdN j (3 : Int)) (mdN k (8 : Int))) (mdN j (3 : Int)) (5 : Int) =
      getN a c d e f g h ix iy (mdN j (3 : Int)) (5 : Int))) = true →
                K (AV.bool false)) ∧
              ((!decide
    (getN (aP a w (mdN j (3 : Int)) (mdN k (8 : Int))) (cP c w (mdN j (3 : Int)) (mdN k (8 : Int)))
        (dP d w (mdN j (3 : Int)) (mdN k (8 : Int))) (eP e w (mdN j (3 : Int)) (mdN k (8 : Int)))
        (fP f w (mdN j (3 : Int)) (mdN k (8 : Int))) (gP g w (mdN j (3 : Int)) (mdN k (8 : Int)))
        (hP h w (mdN j (3 : Int)) (mdN k (8 : Int))) (ixP ix w (mdN j (3 : Int)) (mdN k (8 : Int)))
        (iyP iy w (mdN j (3 : Int)) (mdN k (8 : Int))) (mdN j (3 : Int)) (5 : Int) =
      getN a c d e f g h ix iy (mdN j (3 : Int)) (5 : Int))) = false →
                (decide (mdN k (8 : Int) = (7 : Int))) = true ∧
                (((!decide
    (pairN (aQ a s y (mdN j (3 : Int)) (mdN k (4 : Int))) (bQ b s y (mdN j (3 : Int)) (mdN k (4 : Int)))
        (cQ c s y (mdN j (3 : Int)) (mdN k (4 : Int))) (dQ d s y (mdN j (3 : Int)) (mdN k (4 : Int)))
        (eQ e s y (mdN j (3 : Int)) (mdN k (4 : Int))) (fQ f s y (mdN j (3 : Int)) (mdN k (4 : Int)))
        (gQ g s y (mdN j (3 : Int)) (mdN k (4 : Int))) (hQ h s y (mdN j (3 : Int)) (mdN k (4 : Int)))
        (ixQ ix s y (mdN j (3 : Int)) (mdN k (4 : Int))) (iyQ iy s y (mdN j (3 : Int)) (mdN k (4 : Int)))
        (spQ sp s y (mdN j (3 : Int)) (mdN k (4 : Int))) s (mdN j (3 : Int)) (mdN k (4 : Int)) =
      y)) = true →
                  K (AV.bool false)) ∧
                ((!decide
    (pairN (aQ a s y (mdN j (3 : Int)) (mdN k (4 : Int))) (bQ b s y (mdN j (3 : Int)) (mdN k (4 : Int)))
        (cQ c s y (mdN j (3 : Int)) (mdN k (4 : Int))) (dQ d s y (mdN j (3 : Int)) (mdN k (4 : Int)))
        (eQ e s y (mdN j (3 : Int)) (mdN k (4 : Int))) (fQ f s y (mdN j (3 : Int)) (mdN k (4 : Int)))
        (gQ g s y (mdN j (3 : Int)) (mdN k (4 : Int))) (hQ h s y (mdN j (3 : Int)) (mdN k (4 : Int)))
        (ixQ ix s y (mdN j (3 : Int)) (mdN k (4 : Int))) (iyQ iy s y (mdN j (3 : Int)) (mdN k (4 : Int)))
        (spQ sp s y (mdN j (3 : Int)) (mdN k (4 : Int))) s (mdN j (3 : Int)) (mdN k (4 : Int)) =
      y)) = false →
                  ((!decide
    (pairN (aQ a s y (mdN j (3 : Int)) (mdN k (4 : Int))) (bQ b s y (mdN j (3 : Int)) (mdN k (4 : Int)))
        (cQ c s y (mdN j (3 : Int)) (mdN k (4 : Int))) (dQ d s y (mdN j (3 : Int)) (mdN k (4 : Int)))
        (eQ e s y (mdN j (3 : Int)) (mdN k (4 : Int))) (fQ f s y (mdN j (3 : Int)) (mdN k (4 : Int)))
        (gQ g s y (mdN j (3 : Int)) (mdN k (4 : Int))) (hQ h s y (mdN j (3 : Int)) (mdN k (4 : Int)))
        (ixQ ix s y (mdN j (3 : Int)) (mdN k (4 : Int))) (iyQ iy s y (mdN j (3 : Int)) (mdN k (4 : Int)))
        (spQ sp s y (mdN j (3 : Int)) (mdN k (4 : Int))) s (mdN j (3 : Int)) (0 : Int) =
      pairN a b c d e f g h ix iy sp s (mdN j (3 : Int)) (0 : Int))) = true →
                    K (AV.bool false)) ∧
                  ((!decide
    (pairN (aQ a s y (mdN j (3 : Int)) (mdN k (4 : Int))) (bQ b s y (mdN j (3 : Int)) (mdN k (4 : Int)))
        (cQ c s y (mdN j (3 : Int)) (mdN k (4 : Int))) (dQ d s y (mdN j (3 : Int)) (mdN k (4 : Int)))
        (eQ e s y (mdN j (3 : Int)) (mdN k (4 : Int))) (fQ f s y (mdN j (3 : Int)) (mdN k (4 : Int)))
        (gQ g s y (mdN j (3 : Int)) (mdN k (4 : Int))) (hQ h s y (mdN j (3 : Int)) (mdN k (4 : Int)))
        (ixQ ix s y (mdN j (3 : Int)) (mdN k (4 : Int))) (iyQ iy s y (mdN j (3 : Int)) (mdN k (4 : Int)))
        (spQ sp s y (mdN j (3 : Int)) (mdN k (4 : Int))) s (mdN j (3 : Int)) (0 : Int) =
      pairN a b c d e f g h ix iy sp s (mdN j (3 : Int)) (0 : Int))) = false →
                    ((!decide
    (pairN (aQ a s y (mdN j (3 : Int)) (mdN k (4 : Int))) (bQ b s y (mdN j (3 : Int)) (mdN k (4 : Int)))
        (cQ c s y (mdN j (3 : Int)) (mdN k (4 : Int))) (dQ d s y (mdN j (3 : Int)) (mdN k (4 : Int)))
        (eQ e s y (mdN j (3 : Int)) (mdN k (4 : Int))) (fQ f s y (mdN j (3 : Int)) (mdN k (4 : Int)))
        (gQ g s y (mdN j (3 : Int)) (mdN k (4 : Int))) (hQ h s y (mdN j (3 : Int)) (mdN k (4 : Int)))
        (ixQ ix s y (mdN j (3 : Int)) (mdN k (4 : Int))) (iyQ iy s y (mdN j (3 : Int)) (mdN k (4 : Int)))
        (spQ sp s y (mdN j (3 : Int)) (mdN k (4 : Int))) s (mdN j (3 : Int)) (1 : Int) =
      pairN a b c d e f g h ix iy sp s (mdN j (3 : Int)) (1 : Int))) = true →
                      K (AV.bool false)) ∧
                    ((!decide
    (pairN (aQ a s y (mdN j (3 : Int)) (mdN k (4 : Int))) (bQ b s y (mdN j (3 : Int)) (mdN k (4 : Int)))
        (cQ c s y (mdN j (3 : Int)) (mdN k (4 : Int))) (dQ d s y (mdN j (3 : Int)) (mdN k (4 : Int)))
        (eQ e s y (mdN j (3 : Int)) (mdN k (4 : Int))) (fQ f s y (mdN j (3 : Int)) (mdN k (4 : Int)))
        (gQ g s y (mdN j (3 : Int)) (mdN k (4 : Int))) (hQ h s y (mdN j (3 : Int)) (mdN k (4 : Int)))
        (ixQ ix s y (mdN j (3 : Int)) (mdN k (4 : Int))) (iyQ iy s y (mdN j (3 : Int)) (mdN k (4 : Int)))
        (spQ sp s y (mdN j (3 : Int)) (mdN k (4 : Int))) s (mdN j (3 : Int)) (1 : Int) =
      pairN a b c d e f g h ix iy sp s (mdN j (3 : Int)) (1 : Int))) = false →
                      ((!decide
    (pairN (aQ a s y (mdN j (3 : Int)) (mdN k (4 : Int))) (bQ b s y (mdN j (3 : Int)) (mdN k (4 : Int)))
        (cQ c s y (mdN j (3 : Int)) (mdN k (4 : Int))) (dQ d s y (mdN j (3 : Int)) (mdN k (4 : Int)))
        (eQ e s y (mdN j (3 : Int)) (mdN k (4 : Int))) (fQ f s y (mdN j (3 : Int)) (mdN k (4 : Int)))
        (gQ g s y (mdN j (3 : Int)) (mdN k (4 : Int))) (hQ h s y (mdN j (3 : Int)) (mdN k (4 : Int)))
        (ixQ ix s y (mdN j (3 : Int)) (mdN k (4 : Int))) (iyQ iy s y (mdN j (3 : Int)) (mdN k (4 : Int)))
        (spQ sp s y (mdN j (3 : Int)) (mdN k (4 : Int))) s (mdN j (3 : Int)) (2 : Int) =
      pairN a b c d e f g h ix iy sp s (mdN j (3 : Int)) (2 : Int))) = true →
                        K (AV.bool false)) ∧
                      ((!decide
    (pairN (aQ a s y (mdN j (3 : Int)) (mdN k (4 : Int))) (bQ b s y (mdN j (3 : Int)) (mdN k (4 : Int)))
        (cQ c s y (mdN j (3 : Int)) (mdN k (4 : Int))) (dQ d s y (mdN j (3 : Int)) (mdN k (4 : Int)))
        (eQ e s y (mdN j (3 : Int)) (mdN k (4 : Int))) (fQ f s y (mdN j (3 : Int)) (mdN k (4 : Int)))
        (gQ g s y (mdN j (3 : Int)) (mdN k (4 : Int))) (hQ h s y (mdN j (3 : Int)) (mdN k (4 : Int)))
        (ixQ ix s y (mdN j (3 : Int)) (mdN k (4 : Int))) (iyQ iy s y (mdN j (3 : Int)) (mdN k (4 : Int)))
        (spQ sp s y (mdN j (3 : Int)) (mdN k (4 : Int))) s (mdN j (3 : Int)) (2 : Int) =
      pairN a b c d e f g h ix iy sp s (mdN j (3 : Int)) (2 : Int))) = false →
                        ((!decide
    (bits BinOp.or IntKind.u16
        (IntKind.wrap IntKind.u16
          (IntKind.wrap IntKind.u16
              (getN (aQ a s y (mdN j (3 : Int)) (mdN k (4 : Int))) (cQ c s y (mdN j (3 : Int)) (mdN k (4 : Int)))
                (dQ d s y (mdN j (3 : Int)) (mdN k (4 : Int))) (eQ e s y (mdN j (3 : Int)) (mdN k (4 : Int)))
                (fQ f s y (mdN j (3 : Int)) (mdN k (4 : Int))) (gQ g s y (mdN j (3 : Int)) (mdN k (4 : Int)))
                (hQ h s y (mdN j (3 : Int)) (mdN k (4 : Int))) (ixQ ix s y (mdN j (3 : Int)) (mdN k (4 : Int)))
                (iyQ iy s y (mdN j (3 : Int)) (mdN k (4 : Int))) (mdN j (3 : Int)) (0 : Int)) *
            (256 : Int)))
        (IntKind.wrap IntKind.u16
          (getN (aQ a s y (mdN j (3 : Int)) (mdN k (4 : Int))) (cQ c s y (mdN j (3 : Int)) (mdN k (4 : Int)))
            (dQ d s y (mdN j (3 : Int)) (mdN k (4 : Int))) (eQ e s y (mdN j (3 : Int)) (mdN k (4 : Int)))
            (fQ f s y (mdN j (3 : Int)) (mdN k (4 : Int))) (gQ g s y (mdN j (3 : Int)) (mdN k (4 : Int)))
            (hQ h s y (mdN j (3 : Int)) (mdN k (4 : Int))) (ixQ ix s y (mdN j (3 : Int)) (mdN k (4 : Int)))
            (iyQ iy s y (mdN j (3 : Int)) (mdN k (4 : Int))) (mdN j (3 : Int)) (1 : Int))) =
      pairN (aQ a s y (mdN j (3 : Int)) (mdN k (4 : Int))) (bQ b s y (mdN j (3 : Int)) (mdN k (4 : Int)))
        (cQ c s y (mdN j (3 : Int)) (mdN k (4 : Int))) (dQ d s y (mdN j (3 : Int)) (mdN k (4 : Int)))
        (eQ e s y (mdN j (3 : Int)) (mdN k (4 : Int))) (fQ f s y (mdN j (3 : Int)) (mdN k (4 : Int)))
        (gQ g s y (mdN j (3 : Int)) (mdN k (4 : Int))) (hQ h s y (mdN j (3 : Int)) (mdN k (4 : Int)))
        (ixQ ix s y (mdN j (3 : Int)) (mdN k (4 : Int))) (iyQ iy s y (mdN j (3 : Int)) (mdN k (4 : Int)))
        (spQ sp s y (mdN j (3 : Int)) (mdN k (4 : Int))) s (mdN j (3 : Int)) (0 : Int))) = true →
                          K (AV.bool false)) ∧
                        ((!decide
    (bits BinOp.or IntKind.u16
        (IntKind.wrap IntKind.u16
          (IntKind.wrap IntKind.u16
              (getN (aQ a s y (mdN j (3 : Int)) (mdN k (4 : Int))) (cQ c s y (mdN j (3 : Int)) (mdN k (4 : Int)))
                (dQ d s y (mdN j (3 : Int)) (mdN k (4 : Int))) (eQ e s y (mdN j (3 : Int)) (mdN k (4 : Int)))
                (fQ f s y (mdN j (3 : Int)) (mdN k (4 : Int))) (gQ g s y (mdN j (3 : Int)) (mdN k (4 : Int)))
                (hQ h s y (mdN j (3 : Int)) (mdN k (4 : Int))) (ixQ ix s y (mdN j (3 : Int)) (mdN k (4 : Int)))
                (iyQ iy s y (mdN j (3 : Int)) (mdN k (4 : Int))) (mdN j (3 : Int)) (0 : Int)) *
            (256 : Int)))
        (IntKind.wrap IntKind.u16
          (getN (aQ a s y (mdN j (3 : Int)) (mdN k (4 : Int))) (cQ c s y (mdN j (3 : Int)) (mdN k (4 : Int)))
            (dQ d s y (mdN j (3 : Int)) (mdN k (4 : Int))) (eQ e s y (mdN j (3 : Int)) (mdN k (4 : Int)))
            (fQ f s y (mdN j (3 : Int)) (mdN k (4 : Int))) (gQ g s y (mdN j (3 : Int)) (mdN k (4 : Int)))
            (hQ h s y (mdN j (3 : Int)) (mdN k (4 : Int))) (ixQ ix s y (mdN j (3 : Int)) (mdN k (4 : Int)))
            (iyQ iy s y (mdN j (3 : Int)) (mdN k (4 : Int))) (mdN j (3 : Int)) (1 : Int))) =
      pairN (aQ a s y (mdN j (3 : Int)) (mdN k (4 : Int))) (bQ b s y (mdN j (3 : Int)) (mdN k (4 : Int)))
        (cQ c s y (mdN j (3 : Int)) (mdN k (4 : Int))) (dQ d s y (mdN j (3 : Int)) (mdN k (4 : Int)))
        (eQ e s y (mdN j (3 : Int)) (mdN k (4 : Int))) (fQ f s y (mdN j (3 : Int)) (mdN k (4 : Int)))
        (gQ g s y (mdN j (3 : Int)) (mdN k (4 : Int))) (hQ h s y (mdN j (3 : Int)) (mdN k (4 : Int)))
        (ixQ ix s y (mdN j (3 : Int)) (mdN k (4 : Int))) (iyQ iy s y (mdN j (3 : Int)) (mdN k (4 : Int)))
        (spQ sp s y (mdN j (3 : Int)) (mdN k (4 : Int))) s (mdN j (3 : Int)) (0 : Int))) = false →
                          ((!decide
    (bits BinOp.or IntKind.u16
        (IntKind.wrap IntKind.u16
          (IntKind.wrap IntKind.u16
              (getN (aQ a s y (mdN j (3 : Int)) (mdN k (4 : Int))) (cQ c s y (mdN j (3 : Int)) (mdN k (4 : Int)))
                (dQ d s y (mdN j (3 : Int)) (mdN k (4 : Int))) (eQ e s y (mdN j (3 : Int)) (mdN k (4 : Int)))
                (fQ f s y (mdN j (3 : Int)) (mdN k (4 : Int))) (gQ g s y (mdN j (3 : Int)) (mdN k (4 : Int)))
                (hQ h s y (mdN j (3 : Int)) (mdN k (4 : Int))) (ixQ ix s y (mdN j (3 : Int)) (mdN k (4 : Int)))
                (iyQ iy s y (mdN j (3 : Int)) (mdN k (4 : Int))) (mdN j (3 : Int)) (2 : Int)) *
            (256 : Int)))
        (IntKind.wrap IntKind.u16
          (getN (aQ a s y (mdN j (3 : Int)) (mdN k (4 : Int))) (cQ c s y (mdN j (3 : Int)) (mdN k (4 : Int)))
            (dQ d s y (mdN j (3 : Int)) (mdN k (4 : Int))) (eQ e s y (mdN j (3 : Int)) (mdN k (4 : Int)))
            (fQ f s y (mdN j (3 : Int)) (mdN k (4 : Int))) (gQ g s y (mdN j (3 : Int)) (mdN k (4 : Int)))
            (hQ h s y (mdN j (3 : Int)) (mdN k (4 : Int))) (ixQ ix s y (mdN j (3 : Int)) (mdN k (4 : Int)))
            (iyQ iy s y (mdN j (3 : Int)) (mdN k (4 : Int))) (mdN j (3 : Int)) (3 : Int))) =
      pairN (aQ a s y (mdN j (3 : Int)) (mdN k (4 : Int))) (bQ b s y (mdN j (3 : Int)) (mdN k (4 : Int)))
        (cQ c s y (mdN j (3 : Int)) (mdN k (4 : Int))) (dQ d s y (mdN j (3 : Int)) (mdN k (4 : Int)))
        (eQ e s y (mdN j (3 : Int)) (mdN k (4 : Int))) (fQ f s y (mdN j (3 : Int)) (mdN k (4 : Int)))
        (gQ g s y (mdN j (3 : Int)) (mdN k (4 : Int))) (hQ h s y (mdN j (3 : Int)) (mdN k (4 : Int)))
        (ixQ ix s y (mdN j (3 : Int)) (mdN k (4 : Int))) (iyQ iy s y (mdN j (3 : Int)) (mdN k (4 : Int)))
        (spQ sp s y (mdN j (3 : Int)) (mdN k (4 : Int))) s (mdN j (3 : Int)) (1 : Int))) = true →
                            K (AV.bool false)) ∧
                          ((!decide
    (bits BinOp.or IntKind.u16
        (IntKind.wrap IntKind.u16
          (IntKind.wrap IntKind.u16
              (getN (aQ a s y (mdN j (3 : Int)) (mdN k (4 : Int))) (cQ c s y (mdN j (3 : Int)) (mdN k (4 : Int)))
                (dQ d s y (mdN j (3 : Int)) (mdN k (4 : Int))) (eQ e s y (mdN j (3 : Int)) (mdN k (4 : Int)))
                (fQ f s y (mdN j (3 : Int)) (mdN k (4 : Int))) (gQ g s y (mdN j (3 : Int)) (mdN k (4 : Int)))
                (hQ h s y (mdN j (3 : Int)) (mdN k (4 : Int))) (ixQ ix s y (mdN j (3 : Int)) (mdN k (4 : Int)))
                (iyQ iy s y (mdN j (3 : Int)) (mdN k (4 : Int))) (mdN j (3 : Int)) (2 : Int)) *
            (256 : Int)))
        (IntKind.wrap IntKind.u16
          (getN (aQ a s y (mdN j (3 : Int)) (mdN k (4 : Int))) (cQ c s y (mdN j (3 : Int)) (mdN k (4 : Int)))
            (dQ d s y (mdN j (3 : Int)) (mdN k (4 : Int))) (eQ e s y (mdN j (3 : Int)) (mdN k (4 : Int)))
            (fQ f s y (mdN j (3 : Int)) (mdN k (4 : Int))) (gQ g s y (mdN j (3 : Int)) (mdN k (4 : Int)))
            (hQ h s y (mdN j (3 : Int)) (mdN k (4 : Int))) (ixQ ix s y (mdN j (3 : Int)) (mdN k (4 : Int)))
            (iyQ iy s y (mdN j (3 : Int)) (mdN k (4 : Int))) (mdN j (3 : Int)) (3 : Int))) =
      pairN (aQ a s y (mdN j (3 : Int)) (mdN k (4 : Int))) (bQ b s y (mdN j (3 : Int)) (mdN k (4 : Int)))
        (cQ c s y (mdN j (3 : Int)) (mdN k (4 : Int))) (dQ d s y (mdN j (3 : Int)) (mdN k (4 : Int)))
        (eQ e s y (mdN j (3 : Int)) (mdN k (4 : Int))) (fQ f s y (mdN j (3 : Int)) (mdN k (4 : Int)))
        (gQ g s y (mdN j (3 : Int)) (mdN k (4 : Int))) (hQ h s y (mdN j (3 : Int)) (mdN k (4 : Int)))
        (ixQ ix s y (mdN j (3 : Int)) (mdN k (4 : Int))) (iyQ iy s y (mdN j (3 : Int)) (mdN k (4 : Int)))
        (spQ sp s y (mdN j (3 : Int)) (mdN k (4 : Int))) s (mdN j (3 : Int)) (1 : Int))) = false →
                            ((!decide
    (bits BinOp.or IntKind.u16
        (IntKind.wrap IntKind.u16
          (IntKind.wrap IntKind.u16
              (getN (aQ a s y (mdN j (3 : Int)) (mdN k (4 : Int))) (cQ c s y (mdN j (3 : Int)) (mdN k (4 : Int)))
                (dQ d s y (mdN j (3 : Int)) (mdN k (4 : Int))) (eQ e s y (mdN j (3 : Int)) (mdN k (4 : Int)))
                (fQ f s y (mdN j (3 : Int)) (mdN k (4 : Int))) (gQ g s y (mdN j (3 : Int)) (mdN k (4 : Int)))
                (hQ h s y (mdN j (3 : Int)) (mdN k (4 : Int))) (ixQ ix s y (mdN j (3 : Int)) (mdN k (4 : Int)))
                (iyQ iy s y (mdN j (3 : Int)) (mdN k (4 : Int))) (mdN j (3 : Int)) (4 : Int)) *
            (256 : Int)))
        (IntKind.wrap IntKind.u16
          (getN (aQ a s y (mdN j (3 : Int)) (mdN k (4 : Int))) (cQ c s y (mdN j (3 : Int)) (mdN k (4 : Int)))
            (dQ d s y (mdN j (3 : Int)) (mdN k (4 : Int))) (eQ e s y (mdN j (3 : Int)) (mdN k (4 : Int)))
            (fQ f s y (mdN j (3 : Int)) (mdN k (4 : Int))) (gQ g s y (mdN j (3 : Int)) (mdN k (4 : Int)))
            (hQ h s y (mdN j (3 : Int)) (mdN k (4 : Int))) (ixQ ix s y (mdN j (3 : Int)) (mdN k (4 : Int)))
            (iyQ iy s y (mdN j (3 : Int)) (mdN k (4 : Int))) (mdN j (3 : Int)) (5 : Int))) =
      pairN (aQ a s y (mdN j (3 : Int)) (mdN k (4 : Int))) (bQ b s y (mdN j (3 : Int)) (mdN k (4 : Int)))
        (cQ c s y (mdN j (3 : Int)) (mdN k (4 : Int))) (dQ d s y (mdN j (3 : Int)) (mdN k (4 : Int)))
        (eQ e s y (mdN j (3 : Int)) (mdN k (4 : Int))) (fQ f s y (mdN j (3 : Int)) (mdN k (4 : Int)))
        (gQ g s y (mdN j (3 : Int)) (mdN k (4 : Int))) (hQ h s y (mdN j (3 : Int)) (mdN k (4 : Int)))
        (ixQ ix s y (mdN j (3 : Int)) (mdN k (4 : Int))) (iyQ iy s y (mdN j (3 : Int)) (mdN k (4 : Int)))
        (spQ sp s y (mdN j (3 : Int)) (mdN k (4 : Int))) s (mdN j (3 : Int)) (2 : Int))) = true →
                              K (AV.bool false)) ∧
                            ((!decide
    (bits BinOp.or IntKind.u16
        (IntKind.wrap IntKind.u16
          (IntKind.wrap IntKind.u16
              (getN (aQ a s y (mdN j (3 : Int)) (mdN k (4 : Int))) (cQ c s y (mdN j (3 : Int)) (mdN k (4 : Int)))
                (dQ d s y (mdN j (3 : Int)) (mdN k (4 : Int))) (eQ e s y (mdN j (3 : Int)) (mdN k (4 : Int)))
                (fQ f s y (mdN j (3 : Int)) (mdN k (4 : Int))) (gQ g s y (mdN j (3 : Int)) (mdN k (4 : Int)))
                (hQ h s y (mdN j (3 : Int)) (mdN k (4 : Int))) (ixQ ix s y (mdN j (3 : Int)) (mdN k (4 : Int)))
                (iyQ iy s y (mdN j (3 : Int)) (mdN k (4 : Int))) (mdN j (3 : Int)) (4 : Int)) *
            (256 : Int)))
        (IntKind.wrap IntKind.u16
          (getN (aQ a s y (mdN j (3 : Int)) (mdN k (4 : Int))) (cQ c s y (mdN j (3 : Int)) (mdN k (4 : Int)))
            (dQ d s y (mdN j (3 : Int)) (mdN k (4 : Int))) (eQ e s y (mdN j (3 : Int)) (mdN k (4 : Int)))
            (fQ f s y (mdN j (3 : Int)) (mdN k (4 : Int))) (gQ g s y (mdN j (3 : Int)) (mdN k (4 : Int)))
            (hQ h s y (mdN j (3 : Int)) (mdN k (4 : Int))) (ixQ ix s y (mdN j (3 : Int)) (mdN k (4 : Int)))
            (iyQ iy s y (mdN j (3 : Int)) (mdN k (4 : Int))) (mdN j (3 : Int)) (5 : Int))) =
      pairN (aQ a s y (mdN j (3 : Int)) (mdN k (4 : Int))) (bQ b s y (mdN j (3 : Int)) (mdN k (4 : Int)))
        (cQ c s y (mdN j (3 : Int)) (mdN k (4 : Int))) (dQ d s y (mdN j (3 : Int)) (mdN k (4 : Int)))
        (eQ e s y (mdN j (3 : Int)) (mdN k (4 : Int))) (fQ f s y (mdN j (3 : Int)) (mdN k (4 : Int)))
        (gQ g s y (mdN j (3 : Int)) (mdN k (4 : Int))) (hQ h s y (mdN j (3 : Int)) (mdN k (4 : Int)))
        (ixQ ix s y (mdN j (3 : Int)) (mdN k (4 : Int))) (iyQ iy s y (mdN j (3 : Int)) (mdN k (4 : Int)))
        (spQ sp s y (mdN j (3 : Int)) (mdN k (4 : Int))) s (mdN j (3 : Int)) (2 : Int))) = false →
                              K (AV.bool true)))))))))))))))))
def al7_scr : Plan := .k (.t (.k (.b (.z) (.k (.k (.k (.k (.k (.k (.k (.k (.k (.k (.k (.b (.z) (.k (.k (.k (.k (.k (.k (.k (.k (.k (.k (.k (.b (.z) (.k (.k (.k (.k (.k (.k (.k (.k (.k (.k (.k (.b (.z) (.k (.k (.k (.k (.k (.k (.k (.k (.k (.k (.k (.b (.z) (.k (.k (.k (.k (.k (.k (.k (.k (.k (.k (.k (.b (.z) (.k (.k (.k (.k (.k (.k (.k (.k (.k (.k (.k (.b (.z) (.k (.k (.k (.k (.k (.k (.k (.k (.k (.k (.k (.k (.k (.k (.k (.k (.k (.k (.k (.k (.k (.k (.k (.k (.k (.t (.b (.z) (.k (.k (.k (.k (.k (.k (.k (.k (.k (.k (.k (.k (.k (.b (.z) (.k (.k (.k (.k (.k (.k (.k (.k (.k (.k (.k (.k (.k (.b (.z) (.k (.k (.k (.k (.k (.k (.k (.k (.k (.k (.k (.k (.k (.b (.z) (.k (.k (.k (.k (.k (.k (.k (.k (.k (.k (.k (.k (.k (.k (.k (.k (.b (.z) (.k (.b (.z) (.k (.b (.z) (.z))))))))))))))))))))))))))))))))))))))))))))))))))))))))))))))))))))))))))))))))))))))))))))))))))))))))))))))))))))))))))))))))))))))))))))))))))))))))))))))))))))))
theorem al7_vc (a b c d e f g h i r ix iy sp pc wz af bc de hl im : Int) (p q u v : Bool) (j k : Int) (s : Bool) (w y : Int) (K : AV → Prop) : (funP (XL 7) 4 [.agg [.int .u8 a, .int .u8 b, .int .u8 c, .int .u8 d, .int .u8 e, .int .u8 f, .int .u8 g, .int .u8 h, .int .u8 i, .int .u8 r, .int .u16 ix, .int .u16 iy, .int .u16 sp, .int .u16 pc, .int .u16 wz, .int .u16 af, .int .u16 bc, .int .u16 de, .int .u16 hl, .bool p, .bool q, .int .i64 im, .bool u, .bool v], .int .i64 j, .int .i64 k, .bool s, .int .u8 w, .int .u16 y] h0 al7_scr (fun v _ _ => K v)) = al7_VC a b c d e f g h i r ix iy sp pc wz af bc de hl im p q u v j k s w y K := by kernel_rfl
end Go.Proofs.YthmakddlhaeblaaDoor.V
