/- The law of places over plain values. -/
import Derived.Test.YtnfelncgeihihaaRaF
namespace Go.Proofs.Ytnfelncgeihihaa.V
open Go Go.Proofs
set_option maxRecDepth 100000
set_option linter.unusedSimpArgs false
set_option linter.unusedVariables false

theorem rasterPlaces_sc (x y t : Int) : SC Try.prog 10 [.int .i64 x, .int .i64 y, .int .i64 t] h0 (fun u _ => u = .bool true) := by
  refine walk good_livesB Try.func10 rfl (by simp [Try.ntmps10]) (by kernel_rfl) ?_
  simp [Try.ntmps10, Try.results10, h0]
  have wt0 : t < 0 ∨ 6912 ≤ t → whereA t = .tup [.int .i64 0, .int .i64 0, .bool false, .bool false] := by intro h; unfold whereA; rw [if_pos h]
  have wt1 : 0 ≤ t → t < 6144 → whereA t = .tup [.int .i64 (bits .and .i64 t 31), .int .i64 (whY t), .bool false, .bool true] ∧ pixelA (bits .and .i64 t 31) (whY t) = .tup [.int .i64 t, .bool true] := by
    intro h1 h2
    obtain ⟨a, b⟩ := off_fact h1 h2
    refine ⟨by unfold whereA; rw [if_neg (by omega), if_neg (by omega)], by unfold pixelA; rw [if_pos a, b]⟩
  have wt2 : 6144 ≤ t → t < 6912 → whereA t = .tup [.int .i64 (bits .and .i64 (t - 6144) 31), .int .i64 ((t - 6144) / 32 * 8), .bool true, .bool true] ∧ (∃ q, pixelA (bits .and .i64 (t - 6144) 31) ((t - 6144) / 32 * 8) = .tup [.int .i64 q, .bool true]) ∧ attrA (bits .and .i64 (t - 6144) 31) ((t - 6144) / 32 * 8) = .tup [.int .i64 t, .bool true] := by
    intro h1 h2
    obtain ⟨a, b⟩ := at_fact (t := t - 6144) (by omega) (by omega)
    refine ⟨by unfold whereA; rw [if_neg (by omega), if_pos (by omega)], ⟨_, by unfold pixelA; rw [if_pos a]⟩, ?_⟩
    unfold attrA
    rw [if_pos a]
    have e : 6144 + (t - 6144) / 32 * 8 / 8 * 32 + bits .and .i64 (t - 6144) 31 = t := by omega
    rw [e]
  rcases Bool.eq_false_or_eq_true (onB x y) with h | h
  · obtain ⟨h1, h2, h3, h4⟩ := onB_true h
    obtain ⟨k1, k2, _, _, _⟩ := pix_fact h
    have f1 : pixelA x y = .tup [.int .i64 (pixN x y), .bool true] := by unfold pixelA; rw [if_pos h]
    have f2 : attrA x y = .tup [.int .i64 (6144 + y / 8 * 32 + x), .bool true] := by unfold attrA; rw [if_pos h]
    have f3 := where_pix h
    have f4 := where_attr h
    have f5 : y.tdiv 8 = y / 8 := Int.tdiv_eq_ediv_of_nonneg h3
    have f6 : IntKind.i64.wrap (y / 8) = y / 8 := wrap_in (by omega) (by omega)
    have f7 : IntKind.i64.wrap (y / 8 * 8) = y / 8 * 8 := wrap_in (by omega) (by omega)
    have f8 : 6144 ≤ 6144 + y / 8 * 32 + x := by omega
    have f9 : 6144 + y / 8 * 32 + x < 6912 := by omega
    by_cases c0 : t < 0
    · simp [f1, f2, f3, f4, f5, f6, f7, f8, f9, k2, unk, c0, (eq_false (by omega) : (0 ≤ t) = False), wt0 (.inl c0)]
    · by_cases c1 : 6912 ≤ t
      · simp [f1, f2, f3, f4, f5, f6, f7, f8, f9, k2, unk, c0, c1, (eq_false (by omega) : (t < 6912) = False), (eq_true (by omega) : (0 ≤ t) = True), wt0 (.inr c1)]
      · by_cases c2 : 6144 ≤ t
        · obtain ⟨p1, ⟨q, p2⟩, p3⟩ := wt2 c2 (by omega)
          simp [f1, f2, f3, f4, f5, f6, f7, f8, f9, k2, unk, c0, c1, c2, (eq_true (by omega) : (0 ≤ t) = True), (eq_true (by omega) : (t < 6912) = True), p1, p2, p3]
        · obtain ⟨p1, p2⟩ := wt1 (by omega) (by omega)
          simp [f1, f2, f3, f4, f5, f6, f7, f8, f9, k2, unk, c0, c1, c2, (eq_true (by omega) : (0 ≤ t) = True), (eq_true (by omega) : (t < 6912) = True), p1, p2]
  · have f1 : pixelA x y = .tup [.int .i64 0, .bool false] := by unfold pixelA; rw [if_neg (by simp [h])]
    have f2 : attrA x y = .tup [.int .i64 0, .bool false] := by unfold attrA; rw [if_neg (by simp [h])]
    by_cases c0 : t < 0
    · simp [f1, f2, unk, c0, (eq_false (by omega) : (0 ≤ t) = False), wt0 (.inl c0)]
    · by_cases c1 : 6912 ≤ t
      · simp [f1, f2, unk, c0, c1, (eq_false (by omega) : (t < 6912) = False), (eq_true (by omega) : (0 ≤ t) = True), wt0 (.inr c1)]
      · by_cases c2 : 6144 ≤ t
        · obtain ⟨p1, ⟨q, p2⟩, p3⟩ := wt2 c2 (by omega)
          simp [f1, f2, unk, c0, c1, c2, (eq_true (by omega) : (0 ≤ t) = True), (eq_true (by omega) : (t < 6912) = True), p1, p2, p3]
        · obtain ⟨p1, p2⟩ := wt1 (by omega) (by omega)
          simp [f1, f2, unk, c0, c1, c2, (eq_true (by omega) : (0 ≤ t) = True), (eq_true (by omega) : (t < 6912) = True), p1, p2]
end Go.Proofs.Ytnfelncgeihihaa.V
