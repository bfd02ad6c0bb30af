/- raster: counting (part 2): the document's answer at a time; the loops' states. -/
import Derived.Test.YtnfelncgeihihaaRcV
namespace Go.Proofs.Ytnfelncgeihihaa.V
open Go Go.Proofs
set_option maxRecDepth 100000
set_option maxHeartbeats 4000000
set_option linter.unusedSimpArgs false
set_option linter.unusedVariables false
def rP (T R F W l c : Int) : Bool := decide (IntKind.i64.wrap (l - T) ≥ 0) && decide (IntKind.i64.wrap (l - T) < R) && decide (IntKind.i64.wrap (c - F) ≥ 0) && decide (IntKind.i64.wrap (c - F) < IntKind.i64.wrap (4 * W))
def rM (F c : Int) : Int := (IntKind.i64.wrap (c - F)).tmod 8
def rK (F c : Int) : Int := if rM F c = 0 ∨ rM F c = 2 then 1 else if rM F c = 1 ∨ rM F c = 3 then 2 else 0
def rD (T R F W l c : Int) : Int := if rP T R F W l c = true then rK F c else if c.tmod 8 = 0 then 3 else 0
def rX (T R F W l c : Int) : Int := if rP T R F W l c = true then (if rK F c = 0 then 0 else IntKind.i64.wrap (IntKind.i64.wrap (IntKind.i64.wrap ((IntKind.i64.wrap (c - F)).tdiv 8) * 2) + IntKind.i64.wrap ((rM F c).tdiv 2))) else if c.tmod 8 = 0 then c else 0
def rY (T R F W l c : Int) : Int := if rP T R F W l c = true then (if rK F c = 0 then 0 else IntKind.i64.wrap (l - T)) else if c.tmod 8 = 0 then l else 0
def raD (L C T R F W U t : Int) : Int := if spE L C T R F W U t = 0 then rD T R F W (spL L C T R F W U t) (spC L C T R F W U t) else 0
def raX (L C T R F W U t : Int) : Int := if spE L C T R F W U t = 0 then rX T R F W (spL L C T R F W U t) (spC L C T R F W U t) else 0
def raY (L C T R F W U t : Int) : Int := if spE L C T R F W U t = 0 then rY T R F W (spL L C T R F W U t) (spC L C T R F W U t) else 0
theorem rat_ok (L C T R F W U t : Int) : rat_VC L C T R F W U t (fun u => u = .tup [.agg [.int .i64 (raD L C T R F W U t), .int .i64 (raX L C T R F W U t), .int .i64 (raY L C T R F W U t)], .int .i64 (spE L C T R F W U t)]) := by
  unfold rat_VC raD raX raY
  generalize spE L C T R F W U t = e
  generalize spL L C T R F W U t = l
  generalize spC L C T R F W U t = c
  by_cases he : e = 0
  · subst he
    unfold rD rX rY rK rP rM
    generalize IntKind.i64.wrap (l - T) = p
    generalize IntKind.i64.wrap (c - F) = q
    generalize IntKind.i64.wrap (4 * W) = w
    by_cases h1 : p ≥ 0 <;> by_cases h2 : p < R <;> by_cases h3 : q ≥ 0 <;> by_cases h4 : q < w <;> by_cases h5 : c.tmod 8 = 0 <;> simp [h1, h2, h3, h4, h5]
    all_goals
      by_cases m0 : q.tmod 8 = 0
      · simp [m0]
      · by_cases m2 : q.tmod 8 = 2
        · simp [m2]
        · by_cases m1 : q.tmod 8 = 1
          · simp [m1]
          · by_cases m3 : q.tmod 8 = 3
            · simp [m3]
            · simp [m0, m1, m2, m3]
  · simp [he]
def rat3F : List AV → Option AV
  | [.agg [.int .i64 L, .int .i64 C, .int .i64 T, .int .i64 R, .int .i64 F, .int .i64 W, .int .i64 U], .int .i64 t] => some (.tup [.agg [.int .i64 (raD L C T R F W U t), .int .i64 (raX L C T R F W U t), .int .i64 (raY L C T R F W U t)], .int .i64 (spE L C T R F W U t)])
  | _ => none
theorem rat3_tr : TrOk Try.prog 70 (pureT rat3F) := by
  refine pureT_ok ?_
  intro xs v h
  unfold rat3F at h
  split at h
  · cases h; exact ⟨rfl, rfl, sc_of_vc XRc_ok (by kernel_rfl) (rat_vc _ _ _ _ _ _ _ _ _) (rat_ok _ _ _ _ _ _ _ _)⟩
  · cases h
def purRc2 : Pur := (70, rat3F) :: purRc
theorem purRc2_ok : PurOk Try.prog purRc2 := PurOk.cons rat3_tr purRc_ok
noncomputable def XRc2 : Cx := cxP Try.prog purRc2 []
theorem XRc2_ok : CxOk (cxP Try.prog purRc2 []) := cxP_ok mixed purRc2_ok rfl
/-- How many hold, of so many from a place on. -/
def cnt (f : Int → Bool) : Nat → Int → Int
  | 0, _ => 0
  | m + 1, j => (if f j = true then 1 else 0) + cnt f m (j + 1)
theorem cnt_bd {f : Int → Bool} : ∀ {m : Nat} {j : Int}, 0 ≤ cnt f m j ∧ cnt f m j ≤ m
  | 0, j => by simp [cnt]
  | m + 1, j => by
    have := cnt_bd (f := f) (m := m) (j := j + 1)
    unfold cnt
    split <;> omega
def scH (L C T R F W U : Int) : Nat × AObj := (0, .cells 23 [.int .i64 L, .int .i64 C, .int .i64 T, .int .i64 R, .int .i64 F, .int .i64 W, .int .i64 U])
/-- The inner loop: in line i, at column j. -/
def inT (L C T R F W U n i p a b j : Int) : AF × AH := (⟨43, [(1, .ptr 0 0), (2, .int .i64 p), (3, .int .i64 a), (4, .int .i64 b), (5, .int .i64 i), (12, .int .i64 n), (13, .int .i64 i), (17, .int .i64 C), (18, .int .i64 j)]⟩, ⟨1, [scH L C T R F W U]⟩)
/-- The outer loop, at line i. -/
def ouT (L C T R F W U n i p a b : Int) : AF × AH := (⟨43, [(1, .ptr 0 0), (2, .int .i64 p), (3, .int .i64 a), (4, .int .i64 b), (12, .int .i64 n), (13, .int .i64 i)]⟩, ⟨1, [scH L C T R F W U]⟩)
/-- The document's loop, at time t. -/
def dcT (L C T R F W U p a b t : Int) : AF × AH := (⟨40, [(1, .ptr 0 0), (5, .int .i64 p), (6, .int .i64 a), (7, .int .i64 b), (8, .int .i64 t)]⟩, ⟨1, [scH L C T R F W U]⟩)
def bmK (L C T R F W U i k : Int) (x : Int) : Bool := decide (bmD L C T R F W U i x = k)
def raK (L C T R F W U k : Int) (t : Int) : Bool := decide (raD L C T R F W U t = k)
end Go.Proofs.Ytnfelncgeihihaa.V
