/- raster: counting (part 4): the loops. -/
import Derived.Test.YtnfelncgeihihaaRcW
namespace Go.Proofs.Ytnfelncgeihihaa.V
open Go Go.Proofs
set_option maxRecDepth 100000
set_option maxHeartbeats 4000000
set_option linter.unusedSimpArgs false
set_option linter.unusedVariables false
theorem cnt_step {f : Int → Bool} {n j : Int} (h : j < n) : cnt f (n - j).toNat j = (if f j = true then 1 else 0) + cnt f (n - (j + 1)).toNat (j + 1) := by
  rw [show (n - j).toNat = (n - (j + 1)).toNat + 1 by omega]; rfl
theorem cnt_end {f : Int → Bool} {n j : Int} (h : n ≤ j) : cnt f (n - j).toNat j = 0 := by
  rw [show (n - j).toNat = 0 by omega]; rfl
theorem inPre_iff {L C T R F W U i p a b : Int} : inPre L C T R F W U i p a b = true ↔ okF L C T R F W U = true ∧ 0 ≤ i ∧ i < 400 ∧ (0 ≤ p ∧ p ≤ 400 * i) ∧ (0 ≤ a ∧ a ≤ 400 * i) ∧ (0 ≤ b ∧ b ≤ 400 * i) := by
  unfold inPre; simp only [Bool.and_eq_true, decide_eq_true_eq]
  constructor
  · rintro ⟨⟨⟨⟨⟨⟨⟨⟨h1, h2⟩, h3⟩, h4⟩, h5⟩, h6⟩, h7⟩, h8⟩, h9⟩; exact ⟨h1, h2, h3, ⟨h4, h5⟩, ⟨h6, h7⟩, h8, h9⟩
  · rintro ⟨h1, h2, h3, ⟨h4, h5⟩, ⟨h6, h7⟩, h8, h9⟩; exact ⟨⟨⟨⟨⟨⟨⟨⟨h1, h2⟩, h3⟩, h4⟩, h5⟩, h6⟩, h7⟩, h8⟩, h9⟩
theorem rin_wl {L C T R F W U n i p a b : Int} (hp : inPre L C T R F W U i p a b = true) :
    WL Try.prog 0 (loopAt Try.prog 32 1) (fun e fr σ => e = .exit 2 ∧ fr = (ouT L C T R F W U n i (p + row L C T R F W U 1 i) (a + row L C T R F W U 2 i) (b + row L C T R F W U 3 i)).1 ∧ σ = ⟨1, [scH L C T R F W U]⟩)
      (inT L C T R F W U n i p a b 0).1 (inT L C T R F W U n i p a b 0).2 := by
  obtain ⟨hk, i0, i1, ⟨p0, p1⟩, ⟨a0, a1⟩, b0, b1⟩ := inPre_iff.1 hp
  have hi := okF_iff.1 hk
  have e1 : p + row L C T R F W U 1 i = p + cnt (bmK L C T R F W U i 1) (C - 0).toNat 0 := by simp [row]
  have e2 : a + row L C T R F W U 2 i = a + cnt (bmK L C T R F W U i 2) (C - 0).toNat 0 := by simp [row]
  have e3 : b + row L C T R F W U 3 i = b + cnt (bmK L C T R F W U i 3) (C - 0).toNat 0 := by simp [row]
  generalize p + row L C T R F W U 1 i = A at *
  generalize a + row L C T R F W U 2 i = B at *
  generalize b + row L C T R F W U 3 i = D at *
  refine loop_fam2 (X := XRc2) XRc2_ok (by kernel_rfl) (b := 2) (fun p _ L hL => by cases hL) [1, 2, 3, 4, 5, 12, 13, 17, 18]
    (ι := {x : Int × Int × Int × Int // (0 ≤ x.1 ∧ x.1 ≤ C) ∧ (0 ≤ x.2.1 ∧ x.2.1 ≤ 400 * i + x.1 ∧ A = x.2.1 + cnt (bmK L C T R F W U i 1) (C - x.1).toNat x.1) ∧ (0 ≤ x.2.2.1 ∧ x.2.2.1 ≤ 400 * i + x.1 ∧ B = x.2.2.1 + cnt (bmK L C T R F W U i 2) (C - x.1).toNat x.1) ∧ (0 ≤ x.2.2.2 ∧ x.2.2.2 ≤ 400 * i + x.1 ∧ D = x.2.2.2 + cnt (bmK L C T R F W U i 3) (C - x.1).toNat x.1)})
    (fun x => inT L C T R F W U n i x.1.2.1 x.1.2.2.1 x.1.2.2.2 x.1.1) (fun x => (C - x.1.1).toNat) _ (fun _ => rin_scr)
    (fun x N Q => rin_VC L C T R F W U n i x.1.2.1 x.1.2.2.1 x.1.2.2.2 x.1.1 N Q ()) (fun x N Q => rin_vc L C T R F W U n i x.1.2.1 x.1.2.2.1 x.1.2.2.2 x.1.1 N Q ()) ?_
    ⟨(0, p, a, b), ⟨by simp, by simp; omega⟩, ⟨p0, by simp; omega, e1⟩, ⟨a0, by simp; omega, e2⟩, ⟨b0, by simp; omega, e3⟩⟩
  rintro ⟨⟨j, p, a, b⟩, ⟨j0, j1⟩, ⟨p0, p1, p2⟩, ⟨a0, a1, a2⟩, ⟨b0, b1, b2⟩⟩
  simp only at j0 j1 p0 p1 p2 a0 a1 a2 b0 b1 b2 ⊢
  unfold rin_VC
  by_cases hj : j < C
  · have wj : IntKind.i64.wrap (j + 1) = j + 1 := wrap_in (by omega) (by omega)
    have wp : IntKind.i64.wrap (p + 1) = p + 1 := wrap_in (by omega) (by omega)
    have wa : IntKind.i64.wrap (a + 1) = a + 1 := wrap_in (by omega) (by omega)
    have wb : IntKind.i64.wrap (b + 1) = b + 1 := wrap_in (by omega) (by omega)
    rw [cnt_step hj] at p2 a2 b2
    simp only [bmK, decide_eq_true_eq] at p2 a2 b2
    rw [wj, wp, wa, wb]
    have hj' : decide (j < C) = true := by simp [hj]
    rw [hj']
    refine ⟨fun _ => ⟨fun h => ?_, fun h => ⟨fun h' => ?_, fun h' => ⟨fun h2 => ?_, fun h2 => ?_⟩⟩⟩, fun h => by cases h⟩
    · have h1 : bmD L C T R F W U i j = 1 := by simpa using h
      simp [h1] at p2 a2 b2
      exact ⟨⟨(j + 1, p + 1, a, b), ⟨by simp; omega, by simp; omega⟩, ⟨by simp; omega, by simp; omega, by simp [bmK]; omega⟩, ⟨a0, by simp; omega, by simp [bmK]; omega⟩, ⟨b0, by simp; omega, by simp [bmK]; omega⟩⟩, [(0, 0)], (show (C - (j + 1)).toNat < (C - j).toNat by omega), rfl, ⟨⟨rfl, .inr ⟨rfl, rfl⟩⟩, trivial⟩, rfl, ⟨rfl, rfl, rfl, rfl, rfl, rfl, rfl, rfl, rfl, trivial⟩⟩
    · have h1 : ¬ bmD L C T R F W U i j = 1 := by simpa using h
      have h3 : bmD L C T R F W U i j = 2 := by simpa using h'
      simp [h3] at p2 a2 b2
      exact ⟨⟨(j + 1, p, a + 1, b), ⟨by simp; omega, by simp; omega⟩, ⟨p0, by simp; omega, by simp [bmK]; omega⟩, ⟨by simp; omega, by simp; omega, by simp [bmK]; omega⟩, ⟨b0, by simp; omega, by simp [bmK]; omega⟩⟩, [(0, 0)], (show (C - (j + 1)).toNat < (C - j).toNat by omega), rfl, ⟨⟨rfl, .inr ⟨rfl, rfl⟩⟩, trivial⟩, rfl, ⟨rfl, rfl, rfl, rfl, rfl, rfl, rfl, rfl, rfl, trivial⟩⟩
    · have h1 : ¬ bmD L C T R F W U i j = 1 := by simpa using h
      have h3 : ¬ bmD L C T R F W U i j = 2 := by simpa using h'
      have h4 : bmD L C T R F W U i j = 3 := by simpa using h2
      simp [h4] at p2 a2 b2
      exact ⟨⟨(j + 1, p, a, b + 1), ⟨by simp; omega, by simp; omega⟩, ⟨p0, by simp; omega, by simp [bmK]; omega⟩, ⟨a0, by simp; omega, by simp [bmK]; omega⟩, ⟨by simp; omega, by simp; omega, by simp [bmK]; omega⟩⟩, [(0, 0)], (show (C - (j + 1)).toNat < (C - j).toNat by omega), rfl, ⟨⟨rfl, .inr ⟨rfl, rfl⟩⟩, trivial⟩, rfl, ⟨rfl, rfl, rfl, rfl, rfl, rfl, rfl, rfl, rfl, trivial⟩⟩
    · have h1 : ¬ bmD L C T R F W U i j = 1 := by simpa using h
      have h3 : ¬ bmD L C T R F W U i j = 2 := by simpa using h'
      have h4 : ¬ bmD L C T R F W U i j = 3 := by simpa using h2
      simp [h1, h3, h4] at p2 a2 b2
      exact ⟨⟨(j + 1, p, a, b), ⟨by simp; omega, by simp; omega⟩, ⟨p0, by simp; omega, by simp [bmK]; omega⟩, ⟨a0, by simp; omega, by simp [bmK]; omega⟩, ⟨b0, by simp; omega, by simp [bmK]; omega⟩⟩, [(0, 0)], (show (C - (j + 1)).toNat < (C - j).toNat by omega), rfl, ⟨⟨rfl, .inr ⟨rfl, rfl⟩⟩, trivial⟩, rfl, ⟨rfl, rfl, rfl, rfl, rfl, rfl, rfl, rfl, rfl, trivial⟩⟩
  · have hj' : decide (j < C) = false := by simp; omega
    rw [hj']
    refine ⟨fun h => (by cases h), fun _ => ?_⟩
    rw [cnt_end (show C ≤ j by omega)] at p2 a2 b2
    have q1 : p = A := by omega
    have q2 : a = B := by omega
    have q3 : b = D := by omega
    subst q1 q2 q3
    exact ⟨[(0, 0)], (ouT L C T R F W U n i p a b).1, ⟨1, [scH L C T R F W U]⟩, ⟨rfl, ⟨⟨rfl, .inr ⟨rfl, rfl⟩⟩, trivial⟩, rfl, ⟨rfl, rfl, rfl, rfl, rfl, rfl, trivial⟩⟩, rfl, rfl, rfl⟩
theorem row_bd {L C T R F W U k i : Int} (h : 0 ≤ C) : 0 ≤ row L C T R F W U k i ∧ row L C T R F W U k i ≤ C := by
  have := cnt_bd (f := bmK L C T R F W U i k) (m := C.toNat) (j := 0)
  unfold row; omega
theorem LIn_ok (L C T R F W U : Int) : LOk Try.prog (loopAt Try.prog 32 1) (LIn L C T R F W U) := by
  intro n0 fr σ s Q h
  unfold LIn at h
  split at h
  · obtain ⟨h0, hf, hp, hq⟩ := h
    cases (h0 : n0 = 0)
    intro E a w hE hs
    refine (WL.less (rin_wl hp) ?_) E a w hE (Fits.refines hf E hE a w hs)
    rintro e fr σ ⟨rfl, rfl, rfl⟩
    exact ⟨_, _, fun E _ a w h => h, s, hq⟩
  · exact h.elim
theorem XRcI_ok (L C T R F W U : Int) : CxOk (XRcI L C T R F W U) := ⟨purT_ok purRc2_ok, purO_ok purRc2_ok, mixed⟩
theorem rou_in : loopsOf (loopAt Try.prog 32 0) 1 = [(2, loopAt Try.prog 32 1)] := by kernel_rfl
theorem lin_step {L C T R F W U k n i : Int} (h : i < n) : lin L C T R F W U k (n - i).toNat i = row L C T R F W U k i + lin L C T R F W U k (n - (i + 1)).toNat (i + 1) := by
  rw [show (n - i).toNat = (n - (i + 1)).toNat + 1 by omega]; rfl
theorem lin_end {L C T R F W U k n i : Int} (h : n ≤ i) : lin L C T R F W U k (n - i).toNat i = 0 := by
  rw [show (n - i).toNat = 0 by omega]; rfl
theorem lookL_one' {k j : Nat} {L L' : LTr} (h : lookL [(k, L)] j = some L') : j = k ∧ L' = L := by
  simp only [lookL] at h
  split at h
  · rename_i hk
    exact ⟨(Nat.eq_of_beq_eq_true hk).symm, (Option.some.inj h).symm⟩
  · cases h
theorem rou_wl {L C T R F W U n : Int} (hp : ouPre L C T R F W U n = true) :
    WL Try.prog 0 (loopAt Try.prog 32 0) (fun e fr σ => e = .exit 0 ∧ fr = ⟨43, [(2, .int .i64 (sumB L C T R F W U 1 n)), (3, .int .i64 (sumB L C T R F W U 2 n)), (4, .int .i64 (sumB L C T R F W U 3 n))]⟩ ∧ σ = ⟨1, [scH L C T R F W U]⟩)
      (ouT L C T R F W U n 0 0 0 0).1 (ouT L C T R F W U n 0 0 0 0).2 := by
  have hn : n = 0 ∨ (okF L C T R F W U = true ∧ n = L) := by simpa [ouPre] using hp
  have e1 : sumB L C T R F W U 1 n = 0 + lin L C T R F W U 1 (n - 0).toNat 0 := by simp [sumB]
  have e2 : sumB L C T R F W U 2 n = 0 + lin L C T R F W U 2 (n - 0).toNat 0 := by simp [sumB]
  have e3 : sumB L C T R F W U 3 n = 0 + lin L C T R F W U 3 (n - 0).toNat 0 := by simp [sumB]
  generalize sumB L C T R F W U 1 n = A at *
  generalize sumB L C T R F W U 2 n = B at *
  generalize sumB L C T R F W U 3 n = D at *
  have hn0 : 0 ≤ n := by
    rcases hn with rfl | ⟨hk, rfl⟩
    · omega
    · have := okF_iff.1 hk; omega
  refine loop_fam2 (X := XRcI L C T R F W U) (XRcI_ok L C T R F W U) (by kernel_rfl) (b := 1) ?_ [1, 2, 3, 4, 12, 13]
    (ι := {x : Int × Int × Int × Int // (0 ≤ x.1 ∧ x.1 ≤ n) ∧ (0 ≤ x.2.1 ∧ x.2.1 ≤ 400 * x.1 ∧ A = x.2.1 + lin L C T R F W U 1 (n - x.1).toNat x.1) ∧ (0 ≤ x.2.2.1 ∧ x.2.2.1 ≤ 400 * x.1 ∧ B = x.2.2.1 + lin L C T R F W U 2 (n - x.1).toNat x.1) ∧ (0 ≤ x.2.2.2 ∧ x.2.2.2 ≤ 400 * x.1 ∧ D = x.2.2.2 + lin L C T R F W U 3 (n - x.1).toNat x.1)})
    (fun x => ouT L C T R F W U n x.1.1 x.1.2.1 x.1.2.2.1 x.1.2.2.2) (fun x => (n - x.1.1).toNat) _ (fun _ => rou_scr)
    (fun x N Q => rou_VC L C T R F W U n x.1.1 x.1.2.1 x.1.2.2.1 x.1.2.2.2 N Q ()) (fun x N Q => rou_vc L C T R F W U n x.1.1 x.1.2.1 x.1.2.2.1 x.1.2.2.2 N Q ()) ?_
    ⟨(0, 0, 0, 0), ⟨by simp, by simp; omega⟩, ⟨by simp, by simp, e1⟩, ⟨by simp, by simp, e2⟩, ⟨by simp, by simp, e3⟩⟩
  · intro p hp' l hl
    obtain ⟨h0, rfl⟩ := lookL_one' hl
    rw [rou_in] at hp'
    simp only [List.mem_cons, List.not_mem_nil, or_false] at hp'
    subst hp'
    exact LIn_ok L C T R F W U
  rintro ⟨⟨i, p, a, b⟩, ⟨i0, i1⟩, ⟨p0, p1, p2⟩, ⟨a0, a1, a2⟩, ⟨b0, b1, b2⟩⟩
  simp only at i0 i1 p0 p1 p2 a0 a1 a2 b0 b1 b2 ⊢
  unfold rou_VC
  by_cases hi : i < n
  · have hk : okF L C T R F W U = true ∧ n = L := by
      rcases hn with rfl | h
      · omega
      · exact h
    have hq := okF_iff.1 hk.1
    have wi : IntKind.i64.wrap (i + 1) = i + 1 := wrap_in (by omega) (by omega)
    rw [lin_step hi] at p2 a2 b2
    have r1 := row_bd (L := L) (C := C) (T := T) (R := R) (F := F) (W := W) (U := U) (k := 1) (i := i) (by omega)
    have r2 := row_bd (L := L) (C := C) (T := T) (R := R) (F := F) (W := W) (U := U) (k := 2) (i := i) (by omega)
    have r3 := row_bd (L := L) (C := C) (T := T) (R := R) (F := F) (W := W) (U := U) (k := 3) (i := i) (by omega)
    have hi' : decide (i < n) = true := by simp [hi]
    rw [wi, hi']
    refine ⟨fun _ => ⟨rfl, ⟨rfl, ⟨⟨rfl, .inr ⟨rfl, rfl⟩⟩, trivial⟩, rfl, ⟨rfl, rfl, rfl, rfl, rfl, rfl, rfl, rfl, rfl, trivial⟩⟩, inPre_iff.2 ⟨hk.1, i0, by omega, ⟨p0, p1⟩, ⟨a0, a1⟩, b0, b1⟩, ?_⟩, fun h => by cases h⟩
    exact ⟨⟨(i + 1, p + row L C T R F W U 1 i, a + row L C T R F W U 2 i, b + row L C T R F W U 3 i), ⟨by simp; omega, by simp; omega⟩, ⟨by simp; omega, by simp; omega, by simp; omega⟩, ⟨by simp; omega, by simp; omega, by simp; omega⟩, ⟨by simp; omega, by simp; omega, by simp; omega⟩⟩, [(0, 0)], (show (n - (i + 1)).toNat < (n - i).toNat by omega), rfl, ⟨⟨rfl, .inr ⟨rfl, rfl⟩⟩, trivial⟩, rfl, ⟨rfl, rfl, rfl, rfl, rfl, rfl, trivial⟩⟩
  · have hi' : decide (i < n) = false := by simp; omega
    rw [hi']
    refine ⟨fun h => (by cases h), fun _ => ?_⟩
    rw [lin_end (show n ≤ i by omega)] at p2 a2 b2
    have q1 : p = A := by omega
    have q2 : a = B := by omega
    have q3 : b = D := by omega
    subst q1 q2 q3
    exact ⟨[(0, 0)], ⟨43, [(2, .int .i64 p), (3, .int .i64 a), (4, .int .i64 b)]⟩, ⟨1, [scH L C T R F W U]⟩, ⟨rfl, ⟨⟨rfl, .inr ⟨rfl, rfl⟩⟩, trivial⟩, rfl, ⟨rfl, rfl, rfl, trivial⟩⟩, rfl, rfl, rfl⟩
theorem LOu_ok (L C T R F W U : Int) : LOk Try.prog (loopAt Try.prog 32 0) (LOu L C T R F W U) := by
  intro n0 fr σ s Q h
  unfold LOu at h
  split at h
  · obtain ⟨h0, hf, hp, hq⟩ := h
    cases (h0 : n0 = 0)
    intro E a w hE hs
    refine (WL.less (rou_wl hp) ?_) E a w hE (Fits.refines hf E hE a w hs)
    rintro e fr σ ⟨rfl, rfl, rfl⟩
    exact ⟨_, _, fun E _ a w h => h, s, hq⟩
  · exact h.elim
end Go.Proofs.Ytnfelncgeihihaa.V
