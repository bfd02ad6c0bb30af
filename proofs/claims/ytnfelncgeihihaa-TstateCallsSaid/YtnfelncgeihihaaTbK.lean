/- tstate: times, spots, bytes (part 12): the law over plain values. -/
import Derived.Test.YtnfelncgeihihaaTbJ
namespace Go.Proofs.Ytnfelncgeihihaa.V
open Go Go.Proofs
set_option maxRecDepth 100000
set_option maxHeartbeats 4000000
set_option linter.unusedSimpArgs false
set_option linter.unusedVariables false
theorem tm_valid {L C T R F W U f l c : Int} (hk : okF L C T R F W U = true) (f0 : 0 ≤ f) (hl0 : 0 ≤ l) (hl : l < L) (hc0 : 0 ≤ c) (hc : c < C) (h1 : f * (L * C) + l * C + c ≤ 1099511627776) :
    tmE L C T R F W U f l c = 0 ∧ tmT L C T R F W U f l c = f * (L * C) + l * C + c := by
  have hq := okF_bd hk
  have hz := okF_sz hk
  have hlen : lenF L C T R F W U = L * C := by simp [lenF, hk]
  have a0 : 0 ≤ f * (L * C) := Int.mul_nonneg f0 (by omega)
  have b0 : 0 ≤ l * C := Int.mul_nonneg hl0 (by omega)
  have d : f ≤ 1099511627776 / (L * C) := Int.le_ediv_of_mul_le (by omega) (by omega)
  have d2 : (1099511627776 : Int) / (L * C) ≤ 1099511627776 := Int.ediv_le_self _ (by omega)
  have d3 : (0 : Int) ≤ 1099511627776 / (L * C) := Int.ediv_nonneg (by omega) (by omega)
  have w1 : IntKind.i64.wrap (f * (L * C)) = f * (L * C) := wrap_in (by omega) (by omega)
  have w2 : IntKind.i64.wrap (l * C) = l * C := wrap_in (by omega) (by omega)
  have w3 : IntKind.i64.wrap (f * (L * C) + l * C) = f * (L * C) + l * C := wrap_in (by omega) (by omega)
  have w4 : IntKind.i64.wrap (f * (L * C) + l * C + c) = f * (L * C) + l * C + c := wrap_in (by omega) (by omega)
  have w5 : IntKind.i64.wrap (Int.tdiv 1099511627776 (L * C)) = 1099511627776 / (L * C) := by
    rw [Int.tdiv_eq_ediv_of_nonneg (by omega)]; exact wrap_in (by omega) (by omega)
  have hn : ¬ tmN L C T R F W U f l c := by
    unfold tmN
    rw [hlen, w1, w2, w3, w4, w5]
    have : mayB (f * (L * C) + l * C + c) = true := by simp [mayB]; omega
    rw [this]
    simp
    omega
  unfold tmE tmT
  rw [if_neg hn, if_neg hn, hlen, w1, w2, w3, w4]
  exact ⟨rfl, rfl⟩
theorem tm_zero {L C T R F W U f l c : Int} (hk : okF L C T R F W U = true) (h : tmE L C T R F W U f l c = 0) :
    0 ≤ l ∧ l < L ∧ 0 ≤ c ∧ c < C ∧ tmT L C T R F W U f l c = f * (L * C) + l * C + c ∧ 0 ≤ f * (L * C) + l * C + c ∧ f * (L * C) + l * C + c ≤ 1099511627776 := by
  have hq := okF_bd hk
  have hz := okF_sz hk
  have hlen : lenF L C T R F W U = L * C := by simp [lenF, hk]
  have hn : ¬ tmN L C T R F W U f l c := by
    intro q
    unfold tmE at h
    rw [if_pos q] at h
    omega
  have hT : tmT L C T R F W U f l c = IntKind.i64.wrap (IntKind.i64.wrap (IntKind.i64.wrap (f * (L * C)) + IntKind.i64.wrap (l * C)) + c) := by
    unfold tmT; rw [if_neg hn, hlen]
  rw [hT]
  unfold tmN at hn
  rw [hlen] at hn
  simp only [not_or] at hn
  obtain ⟨n1, n2, n3, n4, n5, n6, n7, n8, n9⟩ := hn
  have d2 : (1099511627776 : Int) / (L * C) ≤ 1099511627776 := Int.ediv_le_self _ (by omega)
  have d3 : (0 : Int) ≤ 1099511627776 / (L * C) := Int.ediv_nonneg (by omega) (by omega)
  have w5 : IntKind.i64.wrap (Int.tdiv 1099511627776 (L * C)) = 1099511627776 / (L * C) := by
    rw [Int.tdiv_eq_ediv_of_nonneg (by omega)]; exact wrap_in (by omega) (by omega)
  rw [w5] at n8
  have a0 : 0 ≤ f * (L * C) := Int.mul_nonneg (by omega) (by omega)
  have a1 : f * (L * C) ≤ 1099511627776 := Int.le_trans (Int.mul_le_mul_of_nonneg_right (show f ≤ 1099511627776 / (L * C) by omega) (by omega)) (Int.ediv_mul_le _ (by omega))
  have b0 : 0 ≤ l * C := Int.mul_nonneg (by omega) (by omega)
  have b1 : l * C ≤ L * C := Int.mul_le_mul_of_nonneg_right (by omega) (by omega)
  have w1 : IntKind.i64.wrap (f * (L * C)) = f * (L * C) := wrap_in (by omega) (by omega)
  have w2 : IntKind.i64.wrap (l * C) = l * C := wrap_in (by omega) (by omega)
  have w3 : IntKind.i64.wrap (f * (L * C) + l * C) = f * (L * C) + l * C := wrap_in (by omega) (by omega)
  have w4 : IntKind.i64.wrap (f * (L * C) + l * C + c) = f * (L * C) + l * C + c := wrap_in (by omega) (by omega)
  rw [w1, w2, w3, w4] at n9 ⊢
  have n10 : mayB (f * (L * C) + l * C + c) = true := by simpa using n9
  have := mayB_true n10
  refine ⟨by omega, by omega, by omega, by omega, rfl, this.1, this.2⟩
theorem backLaw_sc (L C T R F W U t f l c : Int) : SC Try.prog 15 [.agg [.int .i64 L, .int .i64 C, .int .i64 T, .int .i64 R, .int .i64 F, .int .i64 W, .int .i64 U], .int .i64 t, .agg [.int .i64 f, .int .i64 l, .int .i64 c]] h0 (fun u _ => u = .bool true) := by
  refine sc_of_vcT (XTbk_ok L C T R F W U (bts (scX L C T R F W U) 7).length (encI .u8 (bts (scX L C T R F W U) 7))) (by kernel_rfl) (fun p _ L hL => by cases hL) (tbk_vc L C T R F W U t f l c (bts (scX L C T R F W U) 7).length (encI .u8 (bts (scX L C T R F W U) 7)) (fun v => v = .bool true)) ?_
  unfold tbk_VC
  by_cases hk : ¬ okF L C T R F W U = true
  · have e : (if okF L C T R F W U = true then (0 : Int) else 2) = 2 := if_neg hk
    rw [e]
    exact bothT (by decide) rfl
  have hk : okF L C T R F W U = true := Classical.not_not.1 hk
  have hq := okF_bd hk
  have e : (if okF L C T R F W U = true then (0 : Int) else 2) = 0 := if_pos hk
  rw [e]
  refine bothF (by decide) ⟨rfl, ⟨hk, rfl, rfl⟩, ⟨rfl, rfl, by omega, hk, rfl, rfl⟩, ?_⟩
  -- a time's spot
  have hB : 0 ≤ t → t < 1099511627776 → ∃ f' l' c', spE L C T R F W U t = 0 ∧ spF L C T R F W U t = f' ∧ spL L C T R F W U t = l' ∧ spC L C T R F W U t = c' ∧ tmE L C T R F W U f' l' c' = 0 ∧ tmT L C T R F W U f' l' c' = t ∧
      IntKind.i64.wrap (t + 1) = t + 1 ∧ spE L C T R F W U (t + 1) = 0 ∧ IntKind.i64.wrap (c' + 1) = c' + 1 ∧ IntKind.i64.wrap (l' + 1) = l' + 1 ∧ IntKind.i64.wrap (f' + 1) = f' + 1 ∧ ¬ l' = L ∧
      ((¬ c' + 1 = C ∧ spF L C T R F W U (t + 1) = f' ∧ spL L C T R F W U (t + 1) = l' ∧ spC L C T R F W U (t + 1) = c' + 1) ∨
       (c' + 1 = C ∧ ¬ l' + 1 = L ∧ spF L C T R F W U (t + 1) = f' ∧ spL L C T R F W U (t + 1) = l' + 1 ∧ spC L C T R F W U (t + 1) = 0) ∨
       (c' + 1 = C ∧ l' + 1 = L ∧ spF L C T R F W U (t + 1) = f' + 1 ∧ spL L C T R F W U (t + 1) = 0 ∧ spC L C T R F W U (t + 1) = 0)) := by
    intro t0 t1
    obtain ⟨f', l', c', f0, l0, l1, c0, c1, ht, hf⟩ := spot_is (t := t) (show 0 < C by omega) (show 0 < L by omega) t0
    obtain ⟨p1, p2, p3, p4⟩ := sp_of (f := f') hk l0 l1 c0 c1 (by omega) (by omega)
    obtain ⟨q1, q2⟩ := tm_valid hk f0 l0 l1 c0 c1 (by omega)
    rw [← ht] at p1 p2 p3 p4 q2
    refine ⟨f', l', c', p1, p2, p3, p4, q1, q2, wrap_in (by omega) (by omega), ?_, wrap_in (by omega) (by omega), wrap_in (by omega) (by omega), wrap_in (by omega) (by omega), by omega, ?_⟩
    · by_cases hc : c' + 1 = C
      · by_cases hl : l' + 1 = L
        · have e1 : t + 1 = (f' + 1) * (L * C) + 0 * C + 0 := by
            have : l' * C + C = L * C := by rw [← hl, Int.add_mul]; omega
            rw [Int.add_mul]; omega
          rw [e1]
          exact (sp_of hk (by omega) (by omega) (by omega) (by omega) (by omega) (by omega)).1
        · have e1 : t + 1 = f' * (L * C) + (l' + 1) * C + 0 := by rw [Int.add_mul l' 1 C]; omega
          rw [e1]
          exact (sp_of hk (by omega) (by omega) (by omega) (by omega) (by omega) (by omega)).1
      · have e1 : t + 1 = f' * (L * C) + l' * C + (c' + 1) := by omega
        rw [e1]
        exact (sp_of hk (by omega) (by omega) (by omega) (by omega) (by omega) (by omega)).1
    · by_cases hc : c' + 1 = C
      · by_cases hl : l' + 1 = L
        · have e1 : t + 1 = (f' + 1) * (L * C) + 0 * C + 0 := by
            have : l' * C + C = L * C := by rw [← hl, Int.add_mul]; omega
            rw [Int.add_mul]; omega
          have := sp_of (f := f' + 1) (l := 0) (c := 0) hk (by omega) (by omega) (by omega) (by omega) (by omega) (by omega)
          rw [← e1] at this
          exact .inr (.inr ⟨hc, hl, this.2.1, this.2.2.1, this.2.2.2⟩)
        · have e1 : t + 1 = f' * (L * C) + (l' + 1) * C + 0 := by rw [Int.add_mul l' 1 C]; omega
          have := sp_of (f := f') (l := l' + 1) (c := 0) hk (by omega) (by omega) (by omega) (by omega) (by omega) (by omega)
          rw [← e1] at this
          exact .inr (.inl ⟨hc, hl, this.2.1, this.2.2.1, this.2.2.2⟩)
      · have e1 : t + 1 = f' * (L * C) + l' * C + (c' + 1) := by omega
        have := sp_of (f := f') (l := l') (c := c' + 1) hk (by omega) (by omega) (by omega) (by omega) (by omega) (by omega)
        rw [← e1] at this
        exact .inl ⟨hc, this.2.1, this.2.2.1, this.2.2.2⟩
  have fin : ∀ {A : Prop}, (0 ≤ t → t < 1099511627776 → A) → (¬ 0 ≤ t → A) → (0 ≤ t → ¬ t < 1099511627776 → A) → A := by
    intro A h1 h2 h3
    by_cases a : 0 ≤ t
    · by_cases b : t < 1099511627776
      · exact h1 a b
      · exact h3 a b
    · exact h2 a
  by_cases hA : tmE L C T R F W U f l c = 0
  · obtain ⟨l0, l1, c0, c1, hT, z0, z1⟩ := tm_zero hk hA
    obtain ⟨p1, p2, p3, p4⟩ := sp_of (f := f) hk l0 l1 c0 c1 z0 z1
    rw [← hT] at p1 p2 p3 p4
    refine fin (fun t0 t1 => ?_) (fun t0 => ?_) (fun t0 t1 => ?_)
    · obtain ⟨f', l', c', a1, a2, a3, a4, a5, a6, a7, a8, a9, a10, a11, a12, a13⟩ := hB t0 t1
      have m0 : ¬ t < 0 := by omega
      have m1 : ¬ t ≥ 1099511627776 := by omega
      rcases a13 with ⟨b1, b2, b3, b4⟩ | ⟨b1, b2, b3, b4, b5⟩ | ⟨b1, b2, b3, b4, b5⟩
      · simp [hA, p1, p2, p3, p4, m0, m1, a1, a2, a3, a4, a5, a6, a7, a8, a9, a10, a11, a12, b1, b2, b3, b4]
      · have d1 : IntKind.i64.wrap (c' + 1) = C := a9.trans b1
        simp [hA, p1, p2, p3, p4, m0, m1, a1, a2, a3, a4, a5, a6, a7, a8, d1, a10, a11, a12, b2, b3, b4, b5]
      · have d1 : IntKind.i64.wrap (c' + 1) = C := a9.trans b1
        have d2 : IntKind.i64.wrap (l' + 1) = L := a10.trans b2
        simp [hA, p1, p2, p3, p4, m0, m1, a1, a2, a3, a4, a5, a6, a7, a8, d1, d2, a11, a12, b3, b4, b5]
    · have m0 : t < 0 := by omega
      simp [hA, p1, p2, p3, p4, m0]
    · have m0 : ¬ t < 0 := by omega
      have m1 : t ≥ 1099511627776 := by omega
      simp [hA, p1, p2, p3, p4, m0, m1]
  · refine fin (fun t0 t1 => ?_) (fun t0 => ?_) (fun t0 t1 => ?_)
    · obtain ⟨f', l', c', a1, a2, a3, a4, a5, a6, a7, a8, a9, a10, a11, a12, a13⟩ := hB t0 t1
      have m0 : ¬ t < 0 := by omega
      have m1 : ¬ t ≥ 1099511627776 := by omega
      rcases a13 with ⟨b1, b2, b3, b4⟩ | ⟨b1, b2, b3, b4, b5⟩ | ⟨b1, b2, b3, b4, b5⟩
      · simp [hA, m0, m1, a1, a2, a3, a4, a5, a6, a7, a8, a9, a10, a11, a12, b1, b2, b3, b4]
      · have d1 : IntKind.i64.wrap (c' + 1) = C := a9.trans b1
        simp [hA, m0, m1, a1, a2, a3, a4, a5, a6, a7, a8, d1, a10, a11, a12, b2, b3, b4, b5]
      · have d1 : IntKind.i64.wrap (c' + 1) = C := a9.trans b1
        have d2 : IntKind.i64.wrap (l' + 1) = L := a10.trans b2
        simp [hA, m0, m1, a1, a2, a3, a4, a5, a6, a7, a8, d1, d2, a11, a12, b3, b4, b5]
    · have m0 : t < 0 := by omega
      simp [hA, m0]
    · have m0 : ¬ t < 0 := by omega
      have m1 : t ≥ 1099511627776 := by omega
      simp [hA, m0, m1]
end Go.Proofs.Ytnfelncgeihihaa.V
