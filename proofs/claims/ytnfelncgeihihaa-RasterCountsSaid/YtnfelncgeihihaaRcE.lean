/- raster: counting (part 5): the document's loop; what both answer. -/
import Derived.Test.YtnfelncgeihihaaRcD
namespace Go.Proofs.Ytnfelncgeihihaa.V
open Go Go.Proofs
set_option maxRecDepth 100000
set_option maxHeartbeats 400000
set_option linter.unusedSimpArgs false
set_option linter.unusedVariables false
theorem sc_of_vcL {X : Cx} {f : Nat} (hX : CxOk X) (hd : okFunsX X.P [f] = true) (hl : ∀ p ∈ loopsOf (bodyOf X.P f) 0, ∀ L, X.lps p.1 = some L → LOk X.P p.2 L) {xs : List AV} {σ : AH} {s : Plan} {K : AV → Prop} {A : Prop} (e : funP X f xs σ s (fun v _ _ => K v) = A) (h : A) : SC X.P f xs σ (fun u _ => K u) :=
  (funP_sound hX hd hl xs σ s _ (e.mpr h)).mono (fun v σ ⟨s, q⟩ => q)
theorem lenF_bd {L C T R F W U : Int} : 0 ≤ lenF L C T R F W U ∧ lenF L C T R F W U ≤ 160000 := by
  unfold lenF
  split
  · have := okF_sz (by assumption); omega
  · omega
theorem rdc_wl (L C T R F W U : Int) :
    WL Try.prog 0 (loopAt Try.prog 33 0) (fun e fr σ => e = .exit 0 ∧ fr = ⟨40, [(5, .int .i64 (sumR L C T R F W U 1 (lenF L C T R F W U))), (6, .int .i64 (sumR L C T R F W U 2 (lenF L C T R F W U))), (7, .int .i64 (sumR L C T R F W U 3 (lenF L C T R F W U)))]⟩ ∧ σ = ⟨1, [scH L C T R F W U]⟩)
      (dcT L C T R F W U 0 0 0 0).1 (dcT L C T R F W U 0 0 0 0).2 := by
  obtain ⟨n0, n1⟩ := lenF_bd (L := L) (C := C) (T := T) (R := R) (F := F) (W := W) (U := U)
  have e1 : sumR L C T R F W U 1 (lenF L C T R F W U) = 0 + cnt (raK L C T R F W U 1) (lenF L C T R F W U - 0).toNat 0 := by simp [sumR]
  have e2 : sumR L C T R F W U 2 (lenF L C T R F W U) = 0 + cnt (raK L C T R F W U 2) (lenF L C T R F W U - 0).toNat 0 := by simp [sumR]
  have e3 : sumR L C T R F W U 3 (lenF L C T R F W U) = 0 + cnt (raK L C T R F W U 3) (lenF L C T R F W U - 0).toNat 0 := by simp [sumR]
  generalize sumR L C T R F W U 1 (lenF L C T R F W U) = A at *
  generalize sumR L C T R F W U 2 (lenF L C T R F W U) = B at *
  generalize sumR L C T R F W U 3 (lenF L C T R F W U) = D at *
  refine loop_fam2 (X := XRc2) XRc2_ok (by kernel_rfl) (b := 1) (fun p _ L hL => by cases hL) [1, 5, 6, 7, 8]
    (ι := {x : Int × Int × Int × Int // (0 ≤ x.1 ∧ x.1 ≤ lenF L C T R F W U) ∧ (0 ≤ x.2.1 ∧ x.2.1 ≤ x.1 ∧ A = x.2.1 + cnt (raK L C T R F W U 1) (lenF L C T R F W U - x.1).toNat x.1) ∧ (0 ≤ x.2.2.1 ∧ x.2.2.1 ≤ x.1 ∧ B = x.2.2.1 + cnt (raK L C T R F W U 2) (lenF L C T R F W U - x.1).toNat x.1) ∧ (0 ≤ x.2.2.2 ∧ x.2.2.2 ≤ x.1 ∧ D = x.2.2.2 + cnt (raK L C T R F W U 3) (lenF L C T R F W U - x.1).toNat x.1)})
    (fun x => dcT L C T R F W U x.1.2.1 x.1.2.2.1 x.1.2.2.2 x.1.1) (fun x => (lenF L C T R F W U - x.1.1).toNat) _ (fun _ => rdc_scr)
    (fun x N Q => rdc_VC L C T R F W U x.1.2.1 x.1.2.2.1 x.1.2.2.2 x.1.1 N Q ()) (fun x N Q => rdc_vc L C T R F W U x.1.2.1 x.1.2.2.1 x.1.2.2.2 x.1.1 N Q ()) ?_
    ⟨(0, 0, 0, 0), ⟨by simp, by simp; omega⟩, ⟨by simp, by simp, e1⟩, ⟨by simp, by simp, e2⟩, ⟨by simp, by simp, e3⟩⟩
  rintro ⟨⟨j, p, a, b⟩, ⟨j0, j1⟩, ⟨p0, p1, p2⟩, ⟨a0, a1, a2⟩, ⟨b0, b1, b2⟩⟩
  simp only at j0 j1 p0 p1 p2 a0 a1 a2 b0 b1 b2 ⊢
  unfold rdc_VC
  by_cases hj : j < lenF L C T R F W U
  · have wj : IntKind.i64.wrap (j + 1) = j + 1 := wrap_in (by omega) (by omega)
    have wp : IntKind.i64.wrap (p + 1) = p + 1 := wrap_in (by omega) (by omega)
    have wa : IntKind.i64.wrap (a + 1) = a + 1 := wrap_in (by omega) (by omega)
    have wb : IntKind.i64.wrap (b + 1) = b + 1 := wrap_in (by omega) (by omega)
    rw [cnt_step hj] at p2 a2 b2
    simp only [raK, decide_eq_true_eq] at p2 a2 b2
    rw [wj, wp, wa, wb]
    have hj' : decide (j < lenF L C T R F W U) = true := by simp [hj]
    rw [hj']
    refine ⟨fun _ => ⟨fun h => ?_, fun h => ⟨fun h' => ?_, fun h' => ⟨fun h2 => ?_, fun h2 => ?_⟩⟩⟩, fun h => by cases h⟩
    · have h1 : raD L C T R F W U j = 1 := by simpa using h
      simp [h1] at p2 a2 b2
      exact ⟨⟨(j + 1, p + 1, a, b), ⟨by simp; omega, by simp; omega⟩, ⟨by simp; omega, by simp; omega, by simp [raK]; omega⟩, ⟨a0, by simp; omega, by simp [raK]; omega⟩, ⟨b0, by simp; omega, by simp [raK]; omega⟩⟩, [(0, 0)], (show (lenF L C T R F W U - (j + 1)).toNat < (lenF L C T R F W U - j).toNat by omega), rfl, ⟨⟨rfl, .inr ⟨rfl, rfl⟩⟩, trivial⟩, rfl, ⟨rfl, rfl, rfl, rfl, rfl, trivial⟩⟩
    · have h1 : ¬ raD L C T R F W U j = 1 := by simpa using h
      have h3 : raD L C T R F W U j = 2 := by simpa using h'
      simp [h3] at p2 a2 b2
      exact ⟨⟨(j + 1, p, a + 1, b), ⟨by simp; omega, by simp; omega⟩, ⟨p0, by simp; omega, by simp [raK]; omega⟩, ⟨by simp; omega, by simp; omega, by simp [raK]; omega⟩, ⟨b0, by simp; omega, by simp [raK]; omega⟩⟩, [(0, 0)], (show (lenF L C T R F W U - (j + 1)).toNat < (lenF L C T R F W U - j).toNat by omega), rfl, ⟨⟨rfl, .inr ⟨rfl, rfl⟩⟩, trivial⟩, rfl, ⟨rfl, rfl, rfl, rfl, rfl, trivial⟩⟩
    · have h1 : ¬ raD L C T R F W U j = 1 := by simpa using h
      have h3 : ¬ raD L C T R F W U j = 2 := by simpa using h'
      have h4 : raD L C T R F W U j = 3 := by simpa using h2
      simp [h4] at p2 a2 b2
      exact ⟨⟨(j + 1, p, a, b + 1), ⟨by simp; omega, by simp; omega⟩, ⟨p0, by simp; omega, by simp [raK]; omega⟩, ⟨a0, by simp; omega, by simp [raK]; omega⟩, ⟨by simp; omega, by simp; omega, by simp [raK]; omega⟩⟩, [(0, 0)], (show (lenF L C T R F W U - (j + 1)).toNat < (lenF L C T R F W U - j).toNat by omega), rfl, ⟨⟨rfl, .inr ⟨rfl, rfl⟩⟩, trivial⟩, rfl, ⟨rfl, rfl, rfl, rfl, rfl, trivial⟩⟩
    · have h1 : ¬ raD L C T R F W U j = 1 := by simpa using h
      have h3 : ¬ raD L C T R F W U j = 2 := by simpa using h'
      have h4 : ¬ raD L C T R F W U j = 3 := by simpa using h2
      simp [h1, h3, h4] at p2 a2 b2
      exact ⟨⟨(j + 1, p, a, b), ⟨by simp; omega, by simp; omega⟩, ⟨p0, by simp; omega, by simp [raK]; omega⟩, ⟨a0, by simp; omega, by simp [raK]; omega⟩, ⟨b0, by simp; omega, by simp [raK]; omega⟩⟩, [(0, 0)], (show (lenF L C T R F W U - (j + 1)).toNat < (lenF L C T R F W U - j).toNat by omega), rfl, ⟨⟨rfl, .inr ⟨rfl, rfl⟩⟩, trivial⟩, rfl, ⟨rfl, rfl, rfl, rfl, rfl, trivial⟩⟩
  · have hj' : decide (j < lenF L C T R F W U) = false := by simp; omega
    rw [hj']
    refine ⟨fun h => (by cases h), fun _ => ?_⟩
    rw [cnt_end (show lenF L C T R F W U ≤ j by omega)] at p2 a2 b2
    have q1 : p = A := by omega
    have q2 : a = B := by omega
    have q3 : b = D := by omega
    subst q1 q2 q3
    exact ⟨[(0, 0)], ⟨40, [(5, .int .i64 p), (6, .int .i64 a), (7, .int .i64 b)]⟩, ⟨1, [scH L C T R F W U]⟩, ⟨rfl, ⟨⟨rfl, .inr ⟨rfl, rfl⟩⟩, trivial⟩, rfl, ⟨rfl, rfl, rfl, trivial⟩⟩, rfl, rfl, rfl⟩
theorem LDc_ok (L C T R F W U : Int) : LOk Try.prog (loopAt Try.prog 33 0) (LDc L C T R F W U) := by
  rintro n0 fr σ s Q ⟨h0, hf, hq⟩
  cases (h0 : n0 = 0)
  intro E a w hE hs
  refine (WL.less (rdc_wl L C T R F W U) ?_) E a w hE (Fits.refines hf E hE a w hs)
  rintro e fr σ ⟨rfl, rfl, rfl⟩
  exact ⟨_, _, fun E _ a w h => h, s, hq⟩
def nLin (L C T R F W U : Int) : Int := if okF L C T R F W U = true then L else 0
theorem nLin_eq (L C T R F W U : Int) : IntKind.i64.wrap ((lenF L C T R F W U).tdiv (if C > 1 then C else 1)) = nLin L C T R F W U := by
  unfold nLin lenF
  by_cases hk : okF L C T R F W U = true
  · have := okF_iff.1 hk
    rw [if_pos hk, if_pos hk, if_pos (by omega), Int.mul_tdiv_cancel _ (by omega)]
    exact wrap_in (by omega) (by omega)
  · rw [if_neg hk, if_neg hk, Int.zero_tdiv]; decide +kernel
def countF : List AV → Option AV
  | [.agg [.int .i64 L, .int .i64 C, .int .i64 T, .int .i64 R, .int .i64 F, .int .i64 W, .int .i64 U]] => some (.tup [.int .i64 (sumB L C T R F W U 1 (nLin L C T R F W U)), .int .i64 (sumB L C T R F W U 2 (nLin L C T R F W U)), .int .i64 (sumB L C T R F W U 3 (nLin L C T R F W U))])
  | _ => none
def count2F : List AV → Option AV
  | [.agg [.int .i64 L, .int .i64 C, .int .i64 T, .int .i64 R, .int .i64 F, .int .i64 W, .int .i64 U]] => some (.tup [.int .i64 (sumR L C T R F W U 1 (lenF L C T R F W U)), .int .i64 (sumR L C T R F W U 2 (lenF L C T R F W U)), .int .i64 (sumR L C T R F W U 3 (lenF L C T R F W U))])
  | _ => none
theorem rc_find : (loopsOf (bodyOf Try.prog 32) 0) = [(0, loopAt Try.prog 32 0), (2, loopAt Try.prog 32 1)] := by kernel_rfl
theorem dc_find : (loopsOf (bodyOf Try.prog 33) 0) = [(0, loopAt Try.prog 33 0)] := by kernel_rfl
theorem XRcO_ok (L C T R F W U : Int) : CxOk (XRcO L C T R F W U) := ⟨purT_ok purRc2_ok, purO_ok purRc2_ok, mixed⟩
theorem XRcD_ok (L C T R F W U : Int) : CxOk (XRcD L C T R F W U) := ⟨purT_ok purRc2_ok, purO_ok purRc2_ok, mixed⟩
theorem fct_ok (L C T R F W U : Int) : fct_VC L C T R F W U (fun u => u = .tup [.int .i64 (sumB L C T R F W U 1 (nLin L C T R F W U)), .int .i64 (sumB L C T R F W U 2 (nLin L C T R F W U)), .int .i64 (sumB L C T R F W U 3 (nLin L C T R F W U))]) := by
  unfold fct_VC
  rw [nLin_eq]
  have h1 : (!decide ((if C > 1 then C else 1) = 0)) = true := by
    by_cases h : C > 1
    · rw [if_pos h]; simp; omega
    · rw [if_neg h]; rfl
  have h2 : ouPre L C T R F W U (nLin L C T R F W U) = true := by
    unfold ouPre nLin
    by_cases hk : okF L C T R F W U = true
    · rw [if_pos hk]; simp [hk]
    · rw [if_neg hk]; simp
  generalize nLin L C T R F W U = n at *
  generalize (if C > 1 then C else 1) = m at *
  generalize lenF L C T R F W U = k at *
  refine ⟨h1, rfl, ⟨rfl, ⟨⟨rfl, .inr ⟨rfl, rfl⟩⟩, trivial⟩, rfl, ⟨rfl, rfl, rfl, rfl, rfl, rfl, trivial⟩⟩, h2, rfl⟩
theorem fct_lps (L C T R F W U : Int) : ∀ p ∈ loopsOf (bodyOf (XRcO L C T R F W U).P 32) 0, ∀ l, (XRcO L C T R F W U).lps p.1 = some l → LOk (XRcO L C T R F W U).P p.2 l := by
  intro p hp' l hl
  obtain ⟨h0, rfl⟩ := lookL_one' hl
  rw [show (XRcO L C T R F W U).P = Try.prog from rfl, rc_find] at hp'
  simp only [List.mem_cons, List.not_mem_nil, or_false] at hp'
  rcases hp' with rfl | rfl
  · exact LOu_ok L C T R F W U
  · cases h0
theorem fct_sc (L C T R F W U : Int) : SC Try.prog 32 [.agg [.int .i64 L, .int .i64 C, .int .i64 T, .int .i64 R, .int .i64 F, .int .i64 W, .int .i64 U]] h0 (fun u _ => u = .tup [.int .i64 (sumB L C T R F W U 1 (nLin L C T R F W U)), .int .i64 (sumB L C T R F W U 2 (nLin L C T R F W U)), .int .i64 (sumB L C T R F W U 3 (nLin L C T R F W U))]) := by
  exact sc_of_vcL (XRcO_ok L C T R F W U) (by kernel_rfl) (fct_lps L C T R F W U) (fct_vc L C T R F W U _) (fct_ok L C T R F W U)
theorem count_tr : TrOk Try.prog 32 (pureT countF) := by
  refine pureT_ok ?_
  intro xs v h
  unfold countF at h
  split at h
  · cases h
    rename_i L C T R F W U
    exact ⟨rfl, rfl, fct_sc L C T R F W U⟩
  · cases h
theorem fdc_lps (L C T R F W U : Int) : ∀ p ∈ loopsOf (bodyOf (XRcD L C T R F W U).P 33) 0, ∀ l, (XRcD L C T R F W U).lps p.1 = some l → LOk (XRcD L C T R F W U).P p.2 l := by
  intro p hp' l hl
  obtain ⟨h0, rfl⟩ := lookL_one' hl
  rw [show (XRcD L C T R F W U).P = Try.prog from rfl, dc_find] at hp'
  simp only [List.mem_cons, List.not_mem_nil, or_false] at hp'
  subst hp'
  exact LDc_ok L C T R F W U
theorem fdc_ok (L C T R F W U : Int) : fdc_VC L C T R F W U (fun u => u = .tup [.int .i64 (sumR L C T R F W U 1 (lenF L C T R F W U)), .int .i64 (sumR L C T R F W U 2 (lenF L C T R F W U)), .int .i64 (sumR L C T R F W U 3 (lenF L C T R F W U))]) := by
  unfold fdc_VC
  exact ⟨rfl, ⟨rfl, ⟨⟨rfl, .inr ⟨rfl, rfl⟩⟩, trivial⟩, rfl, ⟨rfl, rfl, rfl, rfl, rfl, trivial⟩⟩, rfl⟩
theorem fdc_sc (L C T R F W U : Int) : SC Try.prog 33 [.agg [.int .i64 L, .int .i64 C, .int .i64 T, .int .i64 R, .int .i64 F, .int .i64 W, .int .i64 U]] h0 (fun u _ => u = .tup [.int .i64 (sumR L C T R F W U 1 (lenF L C T R F W U)), .int .i64 (sumR L C T R F W U 2 (lenF L C T R F W U)), .int .i64 (sumR L C T R F W U 3 (lenF L C T R F W U))]) := by
  exact sc_of_vcL (XRcD_ok L C T R F W U) (by kernel_rfl) (fdc_lps L C T R F W U) (fdc_vc L C T R F W U _) (fdc_ok L C T R F W U)
theorem count2_tr : TrOk Try.prog 33 (pureT count2F) := by
  refine pureT_ok ?_
  intro xs v h
  unfold count2F at h
  split at h
  · cases h
    rename_i L C T R F W U
    exact ⟨rfl, rfl, fdc_sc L C T R F W U⟩
  · cases h
def purRc3 : Pur := (32, countF) :: (33, count2F) :: purRc2
theorem purRc3_ok : PurOk Try.prog purRc3 := PurOk.cons count_tr (PurOk.cons count2_tr purRc2_ok)
noncomputable def XRc3 : Cx := cxP Try.prog purRc3 []
theorem XRc3_ok : CxOk (cxP Try.prog purRc3 []) := cxP_ok mixed purRc3_ok rfl
end Go.Proofs.Ytnfelncgeihihaa.V
