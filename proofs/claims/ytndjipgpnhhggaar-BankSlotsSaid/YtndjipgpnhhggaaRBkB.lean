/- bank: what its small functions answer. -/
import Derived.Test.YtndjipgpnhhggaaRBkV
import Derived.Laws.BitsAllLaws
namespace Go.Proofs.YtndjipgpnhhggaaR.V
open Go Go.Proofs
set_option maxRecDepth 100000
set_option linter.unusedSimpArgs false
set_option linter.unusedVariables false
theorem and3_cases (x : Int) : bits .and .u8 x 3 = 0 ∨ bits .and .u8 x 3 = 1 ∨ bits .and .u8 x 3 = 2 ∨ bits .and .u8 x 3 = 3 := by
  unfold bits
  simp only
  generalize BitVec.ofInt IntKind.u8.bits x = v
  have h : ∀ v : BitVec 8, (IntKind.u8.wrap ((v &&& (BitVec.ofInt 8 3)).toNat : Int) = 0 ∨ IntKind.u8.wrap ((v &&& (BitVec.ofInt 8 3)).toNat : Int) = 1 ∨ IntKind.u8.wrap ((v &&& (BitVec.ofInt 8 3)).toNat : Int) = 2 ∨ IntKind.u8.wrap ((v &&& (BitVec.ofInt 8 3)).toNat : Int) = 3) := by decide +kernel
  exact h v
def sq (b : Int) : Int := bits .and .u8 (b / 2) 3
def od (b : Int) : Bool := !decide (bits .and .u8 b 1 = 0)
def s0 (a b : Int) : Int := if od b = true then (if sq b = 0 then 0 else 4) else (if bits .and .u8 a 16 = 0 then (if bits .and .u8 b 4 = 0 then 8 else 10) else (if bits .and .u8 b 4 = 0 then 9 else 11))
def s1 (b : Int) : Int := if od b = true then (if sq b = 0 then 1 else if sq b = 3 then 7 else 5) else 5
def s2 (b : Int) : Int := if od b = true then (if sq b = 0 then 2 else 6) else 2
def s3 (a b : Int) : Int := if od b = true then (if sq b = 1 then 7 else 3) else IntKind.i64.wrap (bits .and .u8 a 7)
def slotsF : List AV → Option AV
  | [.agg [.int .u8 a, .int .u8 b]] => some (.agg [.int .i64 (s0 a b), .int .i64 (s1 b), .int .i64 (s2 b), .int .i64 (s3 a b)])
  | _ => none
theorem slots_tr : TrOk Try.prog 12 (pureT slotsF) := by
  refine pureT_ok ?_
  intro xs v h
  unfold slotsF at h
  split at h
  · cases h
    rename_i a b
    refine ⟨rfl, rfl, sc_of_vc XBk_ok (by kernel_rfl) (slots_vc _ _ _) ?_⟩
    unfold slots_VC s0 s1 s2 s3 od sq
    rcases and3_cases (b / 2) with h | h | h | h <;> by_cases h1 : bits .and .u8 b 1 = 0 <;> by_cases h2 : bits .and .u8 a 16 = 0 <;> by_cases h3 : bits .and .u8 b 4 = 0 <;> simp [h, h1, h2, h3, AV.isI, AV.toI]
  · cases h
def picF : List AV → Option AV
  | [.agg [.int .u8 a, .int .u8 b]] => some (.int .i64 (if bits .and .u8 a 8 = 0 then 5 else 7))
  | _ => none
theorem pic_tr : TrOk Try.prog 13 (pureT picF) := by
  refine pureT_ok ?_
  intro xs v h
  unfold picF at h
  split at h
  · cases h
    rename_i a b
    refine ⟨rfl, rfl, sc_of_vc XBk_ok (by kernel_rfl) (picture_vc _ _ _) ?_⟩
    unfold picture_VC
    by_cases h : bits .and .u8 a 8 = 0 <;> simp [h]
  · cases h
def toldE (a : Int) : Int := if bits .and .u8 a 32 = 0 then 0 else 10
def tdA (a v : Int) (m : Bool) : Int := if bits .and .u8 a 32 = 0 then (if m = true then a else v) else 0
def tdB (a b v : Int) (m : Bool) : Int := if bits .and .u8 a 32 = 0 then (if m = true then v else b) else 0
def toldF : List AV → Option AV
  | [.agg [.int .u8 a, .int .u8 b], .bool m, .int .u8 v] => some (.tup [.agg [.int .u8 (tdA a v m), .int .u8 (tdB a b v m)], .int .i64 (toldE a)])
  | _ => none
theorem told_tr : TrOk Try.prog 14 (pureT toldF) := by
  refine pureT_ok ?_
  intro xs v h
  unfold toldF at h
  split at h
  · cases h
    rename_i a b m v
    refine ⟨rfl, rfl, sc_of_vc XBk_ok (by kernel_rfl) (told_vc _ _ _ _ _) ?_⟩
    unfold told_VC tdA tdB toldE
    by_cases h : bits .and .u8 a 32 = 0 <;> cases m <;> simp [h]
  · cases h
def purBk2 : Pur := (12, slotsF) :: (13, picF) :: (14, toldF) :: purBk
theorem purBk2_ok : PurOk Try.prog purBk2 := PurOk.cons slots_tr (PurOk.cons pic_tr (PurOk.cons told_tr purBk_ok))
noncomputable def XBk2 : Cx := cxP Try.prog purBk2 []
theorem XBk2_ok : CxOk (cxP Try.prog purBk2 []) := cxP_ok mixedBk purBk2_ok rfl
def enc8 (ns : List Int) : List AV := ns.map (AV.int .u8)
end Go.Proofs.YtndjipgpnhhggaaR.V
