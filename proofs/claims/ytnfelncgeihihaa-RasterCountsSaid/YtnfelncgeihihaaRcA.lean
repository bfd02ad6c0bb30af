/- raster: counting (part 1): what is known ahead. -/
import Derived.Test.YtnfelncgeihihaaCoD
import Derived.Test.YtnfelncgeihihaaRnA
namespace Go.Proofs.Ytnfelncgeihihaa.V
open Go Go.Proofs
set_option maxRecDepth 100000
set_option linter.unusedSimpArgs false
set_option linter.unusedVariables false
def bm3 : AV → Int × Int × Int
  | .agg [.int _ d, .int _ x, .int _ y] => (d, x, y)
  | _ => (0, 0, 0)
def bmD (L C T R F W U y x : Int) : Int := (bm3 (beamA L C T R F W U y x)).1
def bmX (L C T R F W U y x : Int) : Int := (bm3 (beamA L C T R F W U y x)).2.1
def bmY (L C T R F W U y x : Int) : Int := (bm3 (beamA L C T R F W U y x)).2.2
theorem bm_eq (L C T R F W U y x : Int) : beamA L C T R F W U y x = .agg [.int .i64 (bmD L C T R F W U y x), .int .i64 (bmX L C T R F W U y x), .int .i64 (bmY L C T R F W U y x)] := by
  unfold bmD bmX bmY
  obtain ⟨a, b, c, e⟩ := beamA_tup L C T R F W U y x
  rw [e]; rfl
def beam3F : List AV → Option AV
  | [.agg [.int .i64 L, .int .i64 C, .int .i64 T, .int .i64 R, .int .i64 F, .int .i64 W, .int .i64 U], .int .i64 y, .int .i64 x] => some (.agg [.int .i64 (bmD L C T R F W U y x), .int .i64 (bmX L C T R F W U y x), .int .i64 (bmY L C T R F W U y x)])
  | _ => none
theorem beam3_tr : TrOk Try.prog 69 (pureT beam3F) := by
  refine pureT_congr' (tr_of_good' good_spot2 rfl) (F := beamF) ?_
  intro xs v h
  unfold beam3F at h
  split at h
  · cases h
    rename_i L C T R F W U y x
    rw [← bm_eq L C T R F W U y x]; rfl
  · cases h
def purRc : Pur := [(26, livesBF), (69, beam3F), (19, lengthF), (27, check2F), (28, length2F), (41, spot3F)]
theorem purRc_ok : PurOk Try.prog purRc :=
  PurOk.cons (tr_of_good' good_spot2 rfl) <| PurOk.cons beam3_tr <| PurOk.cons (tr_of_good' good_spot2 rfl) <| PurOk.cons (tr_of_good' good_spot2 rfl) <| PurOk.cons (tr_of_good' good_spot2 rfl) <| PurOk.cons (pureT_congr (tr_of_good good_spot2 rfl) (F := spot2F) (fun xs v h => (spot3_some xs v h).1)) PurOk.nil
noncomputable def XRc : Cx := cxP Try.prog purRc []
theorem XRc_ok : CxOk (cxP Try.prog purRc []) := cxP_ok mixed purRc_ok rfl
end Go.Proofs.Ytnfelncgeihihaa.V
