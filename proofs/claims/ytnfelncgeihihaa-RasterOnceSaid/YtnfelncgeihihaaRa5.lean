/- The law of raster on when and at (RasterOnce), over plain values. -/
import Derived.Test.YtnfelncgeihihaaRa4
namespace Go.Proofs.Ytnfelncgeihihaa.V
open Go Go.Proofs
set_option maxRecDepth 100000
set_option maxHeartbeats 4000000
set_option linter.unusedSimpArgs false
set_option linter.unusedVariables false

theorem wrap2 {a : Int} (h1 : -4611686018427387904 ≤ a) (h2 : a ≤ 4611686018427387904) : IntKind.i64.wrap a = a := wrap_in (by omega) (by omega)
/-- The beam at a time of the first frame. -/
theorem beam_at {L C T R F W U t : Int} (hk : okF L C T R F W U = true) (h0 : 0 ≤ t) (h1 : t < L * C) : ∃ k a b, beamA L C T R F W U (t.tdiv C) (t.tmod C) = .agg [.int .i64 k, .int .i64 a, .int .i64 b] ∧
    (∀ cx cy, (k = 1 ∧ a = cx ∧ b = cy) ↔ ((0 ≤ cx ∧ cx < W ∧ 0 ≤ cy ∧ cy < R) ∧ t = (T + cy) * C + (F + cx / 2 * 8 + cx % 2 * 2))) ∧
    (∀ cx cy, (k = 2 ∧ a = cx ∧ b = cy) ↔ ((0 ≤ cx ∧ cx < W ∧ 0 ≤ cy ∧ cy < R) ∧ t = (T + cy) * C + (F + cx / 2 * 8 + cx % 2 * 2) + 1)) := by
  obtain ⟨⟨a1, a2⟩, ⟨b1, b2, b3⟩, ⟨d1, d2, d3⟩, ⟨e1, e2, e3⟩, ⟨f1, f2⟩, ⟨g1, g2⟩, ⟨i1, i2⟩, j1, j2, j3⟩ := okF_iff.1 hk
  rw [Int.tdiv_eq_ediv_of_nonneg h0, Int.tmod_eq_emod_of_nonneg h0]
  rw [Int.tmod_eq_emod_of_nonneg e1] at e3
  have q0 := Int.mul_ediv_add_emod t C
  have q1 := Int.emod_nonneg t (b := C) (by omega)
  have q2 := Int.emod_lt_of_pos t (b := C) (by omega)
  have q3 : 0 ≤ t / C := Int.ediv_nonneg h0 (by omega)
  have q4 : t / C < L := Int.ediv_lt_of_lt_mul (by omega) h1
  have uniq : ∀ v r, 0 ≤ r → r < C → (t = v * C + r ↔ (t / C = v ∧ t % C = r)) := by
    intro v r r1 r2
    have := Int.ediv_emod_unique (a := t) (b := C) (r := r) (q := v) (by omega)
    rw [this, Int.mul_comm C v]
    omega
  have u1 : ∀ cx cy, (0 ≤ cx ∧ cx < W ∧ 0 ≤ cy ∧ cy < R) ∧ t = (T + cy) * C + (F + cx / 2 * 8 + cx % 2 * 2) ↔ (0 ≤ cx ∧ cx < W ∧ 0 ≤ cy ∧ cy < R) ∧ (t / C = T + cy ∧ t % C = F + cx / 2 * 8 + cx % 2 * 2) :=
    fun cx cy => and_congr_right fun hh => uniq _ _ (by omega) (by omega)
  have u2 : ∀ cx cy, (0 ≤ cx ∧ cx < W ∧ 0 ≤ cy ∧ cy < R) ∧ t = (T + cy) * C + (F + cx / 2 * 8 + cx % 2 * 2) + 1 ↔ (0 ≤ cx ∧ cx < W ∧ 0 ≤ cy ∧ cy < R) ∧ (t / C = T + cy ∧ t % C = F + cx / 2 * 8 + cx % 2 * 2 + 1) :=
    fun cx cy => and_congr_right fun hh => by rw [Int.add_assoc]; exact uniq _ _ (by omega) (by omega)
  simp only [u1, u2]
  clear u1 u2 uniq
  generalize t / C = y at *
  generalize t % C = x at *
  clear q0
  have w1 : IntKind.i64.wrap (y - T) = y - T := wrap2 (by omega) (by omega)
  have w2 : IntKind.i64.wrap (x - F) = x - F := wrap2 (by omega) (by omega)
  have w3 : IntKind.i64.wrap (4 * W) = 4 * W := wrap2 (by omega) (by omega)
  have w4 : IntKind.i64.wrap ((x - F) / 8 * 2) = (x - F) / 8 * 2 := wrap2 (by omega) (by omega)
  have w5 : IntKind.i64.wrap ((x - F) / 8 * 2 + 1) = (x - F) / 8 * 2 + 1 := wrap2 (by omega) (by omega)
  unfold beamA beamL
  rw [w1, w2, w3, w4, w5]
  split
  · rename_i hh
    rw [and7 (by omega) (by omega)]
    split
    · exact ⟨_, _, _, rfl, fun cx cy => by omega, fun cx cy => by omega⟩
    · split
      · exact ⟨_, _, _, rfl, fun cx cy => by omega, fun cx cy => by omega⟩
      · split
        · exact ⟨_, _, _, rfl, fun cx cy => by omega, fun cx cy => by omega⟩
        · split
          · exact ⟨_, _, _, rfl, fun cx cy => by omega, fun cx cy => by omega⟩
          · exact ⟨_, _, _, rfl, fun cx cy => by omega, fun cx cy => by omega⟩
  · rename_i hh
    split
    · exact ⟨_, _, _, rfl, fun cx cy => by omega, fun cx cy => by omega⟩
    · exact ⟨_, _, _, rfl, fun cx cy => by omega, fun cx cy => by omega⟩
theorem at_frame {L C T R F W U t n : Int} (hk : okF L C T R F W U = true) (h0 : 0 ≤ t) (h1 : t < L * C) (hn : 0 ≤ n) (hm : t + n * (L * C) ≤ 1099511627776) : atA L C T R F W U (t + n * (L * C)) = .tup [beamA L C T R F W U (t.tdiv C) (t.tmod C), .int .i64 0] := by
  have hs := okF_sz hk
  have hb := okF_bd hk
  have hl : lenF L C T R F W U = L * C := by simp [lenF, hk]
  have n0 : L * C ≠ 0 := by omega
  have p0 : 0 ≤ n * (L * C) := Int.mul_nonneg hn (by omega)
  have hmay : mayB (t + n * (L * C)) = true := by simp [mayB]; omega
  have z1 : (t + n * (L * C)).tmod (L * C) = t := by
    rw [Int.tmod_eq_emod_of_nonneg (by omega), Int.add_mul_emod_self_right, Int.emod_eq_of_lt h0 h1]
  have z2 : (t + n * (L * C)).tmod C = t.tmod C := by
    rw [Int.tmod_eq_emod_of_nonneg (by omega), Int.tmod_eq_emod_of_nonneg h0, ← Int.mul_assoc, Int.add_mul_emod_self_right]
  unfold atA
  rw [hl, z1, z2]
  simp [n0, hmay]

theorem rasterOnce_sc (L C T R F W U cx cy n r : Int) : SC Try.prog 6 [.agg [.int .i64 L, .int .i64 C, .int .i64 T, .int .i64 R, .int .i64 F, .int .i64 W, .int .i64 U], .int .i64 cx, .int .i64 cy, .int .i64 n, .int .i64 r] h0 (fun u _ => u = .bool true) := by
  refine walk good_when Try.func6 rfl (by simp [Try.ntmps6]) (by kernel_rfl) ?_
  simp [Try.ntmps6, Try.results6, h0]
  rcases Bool.eq_false_or_eq_true (okF L C T R F W U) with hk | hk
  case inr => simp [hk]
  by_cases h1 : n < 0
  · simp [hk, h1]
  by_cases h2 : 1000 < n
  · simp [hk, h1, h2]
  have hs := okF_sz hk
  have hb := okF_bd hk
  have hl : lenF L C T R F W U = L * C := by simp [lenF, hk]
  have n0 : L * C ≠ 0 := by omega
  obtain ⟨k1, k2⟩ := pick_bd (n := r.tmod (L * C)) (m := L * C) (by omega) (by omega)
  generalize hp : pick (r.tmod (L * C)) (L * C) = t at k1 k2
  obtain ⟨k, a, b, hbeam, F1, F2⟩ := beam_at hk k1 k2
  have m1 : 0 ≤ n * (L * C) := Int.mul_nonneg (by omega) (by omega)
  have m2 : n * (L * C) ≤ 1000 * 160000 := Int.mul_le_mul (by omega) (by omega) (by omega) (by omega)
  have m3 : (n + 1) * (L * C) = n * (L * C) + L * C := by rw [Int.add_mul]; omega
  have t1 := at_frame hk k1 k2 (n := n) (by omega) (by omega)
  have t2 := at_frame hk k1 k2 (n := n + 1) (by omega) (by omega)
  rw [hbeam] at t1 t2
  have w1 : IntKind.i64.wrap (n * (L * C)) = n * (L * C) := wrap2 (by omega) (by omega)
  have w2 : IntKind.i64.wrap (t + n * (L * C)) = t + n * (L * C) := wrap2 (by omega) (by omega)
  have w3 : IntKind.i64.wrap (n + 1) = n + 1 := wrap2 (by omega) (by omega)
  have w4 : IntKind.i64.wrap ((n + 1) * (L * C)) = (n + 1) * (L * C) := wrap2 (by omega) (by omega)
  have w5 : IntKind.i64.wrap (t + (n + 1) * (L * C)) = t + (n + 1) * (L * C) := wrap2 (by omega) (by omega)
  by_cases hin : 0 ≤ cx ∧ cx < W ∧ 0 ≤ cy ∧ cy < R
  · have hw : whenA L C T R F W U cx cy = .tup [.int .i64 ((T + cy) * C + (F + cx / 2 * 8 + cx % 2 * 2)), .bool true] := by unfold whenA; rw [if_pos ⟨hk, hin⟩]
    have G1 := F1 cx cy
    have G2 := F2 cx cy
    obtain ⟨i1, i2, i3, i4⟩ := hin
    have v1 : 0 * 8 ≤ (T + cy) * C := Int.mul_le_mul (by omega) (by omega) (by omega) (by omega)
    have v2 : (T + cy) * C ≤ (L - 1) * C := Int.mul_le_mul_of_nonneg_right (by omega) (by omega)
    have v3 : (L - 1) * C = L * C - C := by rw [Int.sub_mul]; omega
    generalize hv : (T + cy) * C + (F + cx / 2 * 8 + cx % 2 * 2) = v at hw G1 G2
    have r1 : 0 ≤ v := by omega
    have r2 : v + 1 < L * C := by
      have x2 := (okF_iff.1 hk).2.2.2.1
      have x3 := x2.2.2
      rw [Int.tmod_eq_emod_of_nonneg x2.1] at x3
      omega
    obtain ⟨ka, aa, ba, hbe, E1, _⟩ := beam_at hk (t := v) r1 (by omega)
    obtain ⟨kb, ab, bb, hbf, _, E2⟩ := beam_at hk (t := v + 1) (by omega) (by omega)
    have y1 := (E1 cx cy).2 ⟨⟨i1, i2, i3, i4⟩, hv.symm⟩
    have y2 := (E2 cx cy).2 ⟨⟨i1, i2, i3, i4⟩, by omega⟩
    rw [y1.1, y1.2.1, y1.2.2] at hbe
    rw [y2.1, y2.2.1, y2.2.2] at hbf
    have t3 := at_frame hk (t := v) r1 (by omega) (n := n) (by omega) (by omega)
    have t4 := at_frame hk (t := v + 1) (by omega) (by omega) (n := n) (by omega) (by omega)
    rw [hbe] at t3
    rw [hbf] at t4
    have w6 : IntKind.i64.wrap (v + n * (L * C)) = v + n * (L * C) := wrap2 (by omega) (by omega)
    have w7 : IntKind.i64.wrap (v + 1) = v + 1 := wrap2 (by omega) (by omega)
    have w8 : IntKind.i64.wrap (v + 1 + n * (L * C)) = v + 1 + n * (L * C) := wrap2 (by omega) (by omega)
    have c1 : (k = 1 ∧ a = cx ∧ b = cy) ↔ t = v := by rw [G1]; simp [i1, i2, i3, i4]
    have c2 : (k = 2 ∧ a = cx ∧ b = cy) ↔ t = v + 1 := by rw [G2]; simp [i1, i2, i3, i4]
    have d1 : (k == 1 && (a == cx && b == cy)) = decide (t = v) := by rw [Bool.eq_iff_iff]; simpa using c1
    have d2 : (k == 2 && (a == cx && b == cy)) = decide (t = v + 1) := by rw [Bool.eq_iff_iff]; simpa using c2
    simp [hk, h1, h2, hl, n0, hp, hw, i1, i2, i3, i4, t1, t2, t3, t4, w1, w2, w3, w4, w5, w6, w7, w8, unk, d1, d2]
  · have hw : whenA L C T R F W U cx cy = .tup [.int .i64 0, .bool false] := by unfold whenA; rw [if_neg (fun q => hin q.2)]
    have G1 := F1 cx cy
    have N1 : ¬ (k = 1 ∧ a = cx ∧ b = cy) := fun q => hin (G1.1 q).1
    have fin : k = 1 → a = cx → b = cy → False := fun q1 q2 q3 => N1 ⟨q1, q2, q3⟩
    by_cases b1 : 0 ≤ cx
    · by_cases b2 : cx < W
      · by_cases b3 : 0 ≤ cy
        · have b4 : ¬ cy < R := fun q => hin ⟨b1, b2, b3, q⟩
          by_cases z1 : k = 1
          · by_cases z2 : a = cx
            · have z3 : ¬ b = cy := fun q => N1 ⟨z1, z2, q⟩
              simp [hk, h1, h2, hl, n0, hp, hw, b1, b2, b3, b4, t1, t2, w1, w2, w3, w4, w5, unk, z1, z2, z3]
            · simp [hk, h1, h2, hl, n0, hp, hw, b1, b2, b3, b4, t1, t2, w1, w2, w3, w4, w5, unk, z1, z2]
          · simp [hk, h1, h2, hl, n0, hp, hw, b1, b2, b3, b4, t1, t2, w1, w2, w3, w4, w5, unk, z1]
        · by_cases z1 : k = 1
          · by_cases z2 : a = cx
            · have z3 : ¬ b = cy := fun q => N1 ⟨z1, z2, q⟩
              simp [hk, h1, h2, hl, n0, hp, hw, b1, b2, b3, t1, t2, w1, w2, w3, w4, w5, unk, z1, z2, z3]
            · simp [hk, h1, h2, hl, n0, hp, hw, b1, b2, b3, t1, t2, w1, w2, w3, w4, w5, unk, z1, z2]
          · simp [hk, h1, h2, hl, n0, hp, hw, b1, b2, b3, t1, t2, w1, w2, w3, w4, w5, unk, z1]
      · by_cases z1 : k = 1
        · by_cases z2 : a = cx
          · have z3 : ¬ b = cy := fun q => N1 ⟨z1, z2, q⟩
            simp [hk, h1, h2, hl, n0, hp, hw, b1, b2, t1, t2, w1, w2, w3, w4, w5, unk, z1, z2, z3]
          · simp [hk, h1, h2, hl, n0, hp, hw, b1, b2, t1, t2, w1, w2, w3, w4, w5, unk, z1, z2]
        · simp [hk, h1, h2, hl, n0, hp, hw, b1, b2, t1, t2, w1, w2, w3, w4, w5, unk, z1]
    · by_cases z1 : k = 1
      · by_cases z2 : a = cx
        · have z3 : ¬ b = cy := fun q => N1 ⟨z1, z2, q⟩
          simp [hk, h1, h2, hl, n0, hp, hw, b1, t1, t2, w1, w2, w3, w4, w5, unk, z1, z2, z3]
        · simp [hk, h1, h2, hl, n0, hp, hw, b1, t1, t2, w1, w2, w3, w4, w5, unk, z1, z2]
      · simp [hk, h1, h2, hl, n0, hp, hw, b1, t1, t2, w1, w2, w3, w4, w5, unk, z1]

end Go.Proofs.Ytnfelncgeihihaa.V
