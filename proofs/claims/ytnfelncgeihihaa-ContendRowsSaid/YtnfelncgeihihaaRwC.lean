/- contend: rows of requests (part 2): a request's bounds, plainly. contend: rows of requests (part 3): what comes later ends later; a frame later it is the same, plainly. -/
import Derived.Test.YtnfelncgeihihaaCoE
namespace Go.Proofs.Ytnfelncgeihihaa.V
open Go Go.Proofs
set_option maxRecDepth 100000
set_option maxHeartbeats 1000000
set_option linter.unusedSimpArgs false
set_option linter.unusedVariables false
theorem waitN_R0 (L C T F W U t : Int) : waitN L C T 0 F W U t = 0 := by
  unfold waitN
  split
  · rfl
  · rename_i h
    have hk : okF L C T 0 F W U = true := by
      cases ho : okF L C T 0 F W U
      · exact absurd (.inl (by simp [lenF, ho])) h
      · rfl
    have hq := okF_iff.1 hk
    have e : IntKind.i64.wrap (T + 0) = T := by rw [Int.add_zero]; exact wrap_in (by omega) (by omega)
    rw [e, if_pos (by omega)]
theorem wtN_bd {w : Int → Int} {B : Int} (hw : ∀ s, 0 ≤ w s ∧ w s ≤ B) (hB : B ≤ 6) (c : Bool) {t : Int} (h1 : 0 ≤ t) (h2 : t ≤ 1099511627776) : t ≤ wtN w c t ∧ wtN w c t ≤ t + B := by
  rw [wtN_in (fun s => ⟨(hw s).1, by have := (hw s).2; omega⟩) h1 h2]
  have := hw t
  split <;> omega
theorem ioAt_bd {w : Int → Int} {B : Int} (hw : ∀ s, 0 ≤ w s ∧ w s ≤ B) (hB : B ≤ 6) (sl ev : Bool) {t : Int} (h1 : 0 ≤ t) (h2 : t ≤ 1099511626776) : t + 1 ≤ ioAt w sl ev t ∧ ioAt w sl ev t ≤ t + 1 + 2 * B := by
  unfold ioAt
  obtain ⟨a1, a2⟩ := wtN_bd hw hB sl h1 (show t ≤ 1099511627776 by omega)
  rw [inc_in (by omega) (by omega)]
  obtain ⟨b1, b2⟩ := wtN_bd hw hB (sl || ev) (t := wtN w sl t + 1) (by omega) (by omega)
  omega
theorem ioEnd_bd {w : Int → Int} {B : Int} (hw : ∀ s, 0 ≤ w s ∧ w s ≤ B) (hB : B ≤ 6) (sl ev : Bool) {t : Int} (h1 : 0 ≤ t) (h2 : t ≤ 1099511626776) : t + 4 ≤ ioEnd w sl ev t ∧ ioEnd w sl ev t ≤ t + 4 + 4 * B ∧ ioAt w sl ev t < ioEnd w sl ev t := by
  unfold ioEnd
  obtain ⟨a1, a2⟩ := ioAt_bd hw hB sl ev h1 h2
  generalize ioAt w sl ev t = x at *
  rw [inc_in (t := x) (by omega) (by omega)]
  obtain ⟨b1, b2⟩ := wtN_bd hw hB (sl && !ev) (t := x + 1) (by omega) (by omega)
  generalize wtN w (sl && !ev) (x + 1) = y at *
  rw [inc_in (t := y) (by omega) (by omega)]
  obtain ⟨c1, c2⟩ := wtN_bd hw hB (sl && !ev) (t := y + 1) (by omega) (by omega)
  generalize wtN w (sl && !ev) (y + 1) = z at *
  rw [inc_in (t := z) (by omega) (by omega)]
  omega
/-- What a request may cost. -/
theorem req_bd {L C T R F W U k a v n t : Int} (sl : Bool) (h : reqErr L C T R F W U k a v n t = 0) :
    t ≤ reqAt L C T R F W U k a v n sl t ∧ reqAt L C T R F W U k a v n sl t < reqEnd L C T R F W U k a v n sl t ∧ t + n ≤ reqEnd L C T R F W U k a v n sl t ∧ reqEnd L C T R F W U k a v n sl t ≤ t + n + mostN L C T R F W U k := by
  obtain ⟨h1, h2, h3, h4⟩ := reqErr_zero h
  have hs := stepE_zero h2
  have hB : ∃ B : Int, (∀ s, 0 ≤ waitN L C T R F W U s ∧ waitN L C T R F W U s ≤ B) ∧ B ≤ 6 ∧ 0 ≤ B ∧ mostN L C T R F W U k = if k = 6 then 0 else if k = 4 ∨ k = 5 then 4 * B else B := by
    by_cases hW : W = 0
    · subst hW
      refine ⟨0, fun s => by rw [waitN_W0]; omega, by omega, by omega, ?_⟩
      simp [mostN]
    · by_cases hR : R = 0
      · subst hR
        refine ⟨0, fun s => by rw [waitN_R0]; omega, by omega, by omega, ?_⟩
        simp [mostN]
      · refine ⟨6, fun s => waitN_bd L C T R F W U s, by omega, by omega, ?_⟩
        unfold mostN
        by_cases k6 : k = 6
        · simp [k6]
        · simp [h1, hW, hR, k6]
  obtain ⟨B, hw, hB6, hB0, hm⟩ := hB
  rw [hm]
  unfold reqEnd reqAt
  rw [if_pos h, if_pos h]
  by_cases k6 : k = 6
  · rw [if_pos k6, if_pos k6, if_pos k6, wrap_in (by omega) (by omega)]; omega
  · rw [if_neg k6, if_neg k6, if_neg k6]
    by_cases k45 : k = 4 ∨ k = 5
    · rw [if_pos k45, if_pos k45, if_pos k45]
      have hn : n = 4 := by rcases k45 with q | q; exact hs.1 q; exact hs.2.1 q
      obtain ⟨a1, a2⟩ := ioAt_bd hw hB6 sl (evenB a) h3 h4
      obtain ⟨b1, b2, b3⟩ := ioEnd_bd hw hB6 sl (evenB a) h3 h4
      omega
    · rw [if_neg k45, if_neg k45, if_neg k45]
      obtain ⟨a1, a2⟩ := wtN_bd hw hB6 sl h3 (show t ≤ 1099511627776 by omega)
      rw [wrap_in (by omega) (by omega)]
      omega
end Go.Proofs.Ytnfelncgeihihaa.V
namespace Go.Proofs.Ytnfelncgeihihaa.V
open Go Go.Proofs
set_option maxRecDepth 100000
set_option maxHeartbeats 1000000
set_option linter.unusedSimpArgs false
set_option linter.unusedVariables false
theorem waitN_mono {L C T R F W U s u : Int} (hk : okF L C T R F W U = true) (h0 : 0 ≤ s) (h : s ≤ u) (h1 : u ≤ 1099511627776) : s + waitN L C T R F W U s ≤ u + waitN L C T R F W U u := by
  obtain ⟨d, hd⟩ := Int.eq_ofNat_of_zero_le (show 0 ≤ u - s by omega)
  have e : u = s + d := by omega
  subst e
  rw [waitN_eq hk h0 (by omega), waitN_eq hk (by omega) h1]
  have := wt_mono hk h0 d
  omega
theorem waitN_per {L C T R F W U s : Int} (hk : okF L C T R F W U = true) (h0 : 0 ≤ s) (h1 : s + L * C ≤ 1099511627776) : waitN L C T R F W U (s + L * C) = waitN L C T R F W U s := by
  have hz := okF_sz hk
  rw [waitN_eq hk (by omega) h1, waitN_eq hk h0 (by omega)]
  unfold wt
  have e1 : (s + L * C) % (L * C) = s % (L * C) := Int.add_emod_right s (L * C)
  have e2 : (s + L * C) % C = s % C := by rw [Int.mul_comm L C]; exact Int.add_mul_emod_self_left s C L
  rw [e1, e2]
section
variable {w : Int → Int} (hw : ∀ s, 0 ≤ w s ∧ w s ≤ 6)
include hw
theorem wtN_mono (hm : ∀ s u, 0 ≤ s → s ≤ u → u ≤ 1099511627776 → s + w s ≤ u + w u) (c : Bool) {s u : Int} (h0 : 0 ≤ s) (h : s ≤ u) (h1 : u ≤ 1099511627776) : wtN w c s ≤ wtN w c u := by
  rw [wtN_in hw h0 (by omega), wtN_in hw (by omega) h1]
  have := hm s u h0 h h1
  cases c <;> simp <;> omega
theorem ioEnd_mono (hm : ∀ s u, 0 ≤ s → s ≤ u → u ≤ 1099511627776 → s + w s ≤ u + w u) (sl ev : Bool) {s u : Int} (h0 : 0 ≤ s) (h : s ≤ u) (h1 : u ≤ 1099511626776) : ioEnd w sl ev s ≤ ioEnd w sl ev u := by
  unfold ioEnd ioAt
  have a := wtN_mono hw hm sl h0 h (by omega)
  obtain ⟨a1, a2⟩ := wtN_bd hw (by omega) sl h0 (show s ≤ 1099511627776 by omega)
  obtain ⟨a3, a4⟩ := wtN_bd hw (by omega) sl (show 0 ≤ u by omega) (show u ≤ 1099511627776 by omega)
  generalize wtN w sl s = x at *
  generalize wtN w sl u = x' at *
  rw [inc_in (t := x) (by omega) (by omega), inc_in (t := x') (by omega) (by omega)]
  have b := wtN_mono hw hm (sl || ev) (s := x + 1) (u := x' + 1) (by omega) (by omega) (by omega)
  obtain ⟨b1, b2⟩ := wtN_bd hw (by omega) (sl || ev) (t := x + 1) (by omega) (by omega)
  obtain ⟨b3, b4⟩ := wtN_bd hw (by omega) (sl || ev) (t := x' + 1) (by omega) (by omega)
  generalize wtN w (sl || ev) (x + 1) = y at *
  generalize wtN w (sl || ev) (x' + 1) = y' at *
  rw [inc_in (t := y) (by omega) (by omega), inc_in (t := y') (by omega) (by omega)]
  have c := wtN_mono hw hm (sl && !ev) (s := y + 1) (u := y' + 1) (by omega) (by omega) (by omega)
  obtain ⟨c1, c2⟩ := wtN_bd hw (by omega) (sl && !ev) (t := y + 1) (by omega) (by omega)
  obtain ⟨c3, c4⟩ := wtN_bd hw (by omega) (sl && !ev) (t := y' + 1) (by omega) (by omega)
  generalize wtN w (sl && !ev) (y + 1) = z at *
  generalize wtN w (sl && !ev) (y' + 1) = z' at *
  rw [inc_in (t := z) (by omega) (by omega), inc_in (t := z') (by omega) (by omega)]
  have d := wtN_mono hw hm (sl && !ev) (s := z + 1) (u := z' + 1) (by omega) (by omega) (by omega)
  obtain ⟨d1, d2⟩ := wtN_bd hw (by omega) (sl && !ev) (t := z + 1) (by omega) (by omega)
  obtain ⟨d3, d4⟩ := wtN_bd hw (by omega) (sl && !ev) (t := z' + 1) (by omega) (by omega)
  generalize wtN w (sl && !ev) (z + 1) = q at *
  generalize wtN w (sl && !ev) (z' + 1) = q' at *
  rw [inc_in (t := q) (by omega) (by omega), inc_in (t := q') (by omega) (by omega)]
  omega
theorem wtN_per {N : Int} (hN : 0 ≤ N) (hp : ∀ s, 0 ≤ s → s + N ≤ 1099511627776 → w (s + N) = w s) (c : Bool) {s : Int} (h0 : 0 ≤ s) (h1 : s + N ≤ 1099511627776) : wtN w c (s + N) = wtN w c s + N := by
  rw [wtN_in hw (by omega) h1, wtN_in hw h0 (by omega), hp s h0 h1]
  omega
theorem ioEnd_per {N : Int} (hN : 0 ≤ N) (hp : ∀ s, 0 ≤ s → s + N ≤ 1099511627776 → w (s + N) = w s) (sl ev : Bool) {s : Int} (h0 : 0 ≤ s) (h1 : s + N ≤ 1099511626776) : ioEnd w sl ev (s + N) = ioEnd w sl ev s + N := by
  unfold ioEnd ioAt
  rw [wtN_per hw hN hp sl h0 (by omega)]
  obtain ⟨a1, a2⟩ := wtN_bd hw (by omega) sl h0 (show s ≤ 1099511627776 by omega)
  generalize wtN w sl s = x at *
  rw [inc_in (t := x) (by omega) (by omega), inc_in (t := x + N) (by omega) (by omega), show x + N + 1 = (x + 1) + N by omega, wtN_per hw hN hp (sl || ev) (s := x + 1) (by omega) (by omega)]
  obtain ⟨b1, b2⟩ := wtN_bd hw (by omega) (sl || ev) (t := x + 1) (by omega) (by omega)
  generalize wtN w (sl || ev) (x + 1) = y at *
  rw [inc_in (t := y) (by omega) (by omega), inc_in (t := y + N) (by omega) (by omega), show y + N + 1 = (y + 1) + N by omega, wtN_per hw hN hp (sl && !ev) (s := y + 1) (by omega) (by omega)]
  obtain ⟨c1, c2⟩ := wtN_bd hw (by omega) (sl && !ev) (t := y + 1) (by omega) (by omega)
  generalize wtN w (sl && !ev) (y + 1) = z at *
  rw [inc_in (t := z) (by omega) (by omega), inc_in (t := z + N) (by omega) (by omega), show z + N + 1 = (z + 1) + N by omega, wtN_per hw hN hp (sl && !ev) (s := z + 1) (by omega) (by omega)]
  obtain ⟨d1, d2⟩ := wtN_bd hw (by omega) (sl && !ev) (t := z + 1) (by omega) (by omega)
  generalize wtN w (sl && !ev) (z + 1) = q at *
  rw [inc_in (t := q) (by omega) (by omega), inc_in (t := q + N) (by omega) (by omega)]
  omega
end
theorem reqEnd_mono {L C T R F W U k a v n s u : Int} (sl : Bool) (hs : reqErr L C T R F W U k a v n s = 0) (hu : reqErr L C T R F W U k a v n u = 0) (h : s ≤ u) : reqEnd L C T R F W U k a v n sl s ≤ reqEnd L C T R F W U k a v n sl u := by
  obtain ⟨h1, h2, h3, h4⟩ := reqErr_zero hs
  obtain ⟨g1, g2, g3, g4⟩ := reqErr_zero hu
  have st := stepE_zero h2
  have hw : ∀ s, 0 ≤ waitN L C T R F W U s ∧ waitN L C T R F W U s ≤ 6 := fun s => waitN_bd L C T R F W U s
  have hm : ∀ s u, 0 ≤ s → s ≤ u → u ≤ 1099511627776 → s + waitN L C T R F W U s ≤ u + waitN L C T R F W U u := fun s u a b c => waitN_mono h1 a b c
  unfold reqEnd
  rw [if_pos hs, if_pos hu]
  by_cases k6 : k = 6
  · rw [if_pos k6, if_pos k6, wrap_in (by omega) (by omega), wrap_in (by omega) (by omega)]; omega
  · rw [if_neg k6, if_neg k6]
    by_cases k45 : k = 4 ∨ k = 5
    · rw [if_pos k45, if_pos k45]; exact ioEnd_mono hw hm sl _ h3 h g4
    · rw [if_neg k45, if_neg k45]
      have a := wtN_mono hw hm sl h3 h (by omega)
      obtain ⟨a1, a2⟩ := wtN_bd hw (by omega) sl h3 (show s ≤ 1099511627776 by omega)
      obtain ⟨a3, a4⟩ := wtN_bd hw (by omega) sl g3 (show u ≤ 1099511627776 by omega)
      rw [wrap_in (by omega) (by omega), wrap_in (by omega) (by omega)]; omega
theorem reqEnd_per {L C T R F W U k a v n s : Int} (sl : Bool) (hs : reqErr L C T R F W U k a v n s = 0) (hu : reqErr L C T R F W U k a v n (s + L * C) = 0) : reqEnd L C T R F W U k a v n sl (s + L * C) = reqEnd L C T R F W U k a v n sl s + L * C := by
  obtain ⟨h1, h2, h3, h4⟩ := reqErr_zero hs
  obtain ⟨g1, g2, g3, g4⟩ := reqErr_zero hu
  have st := stepE_zero h2
  have hz := okF_sz h1
  have hw : ∀ s, 0 ≤ waitN L C T R F W U s ∧ waitN L C T R F W U s ≤ 6 := fun s => waitN_bd L C T R F W U s
  have hp : ∀ s, 0 ≤ s → s + L * C ≤ 1099511627776 → waitN L C T R F W U (s + L * C) = waitN L C T R F W U s := fun s a b => waitN_per h1 a b
  unfold reqEnd
  rw [if_pos hs, if_pos hu]
  generalize L * C = N at *
  by_cases k6 : k = 6
  · rw [if_pos k6, if_pos k6, wrap_in (by omega) (by omega), wrap_in (by omega) (by omega)]; omega
  · rw [if_neg k6, if_neg k6]
    by_cases k45 : k = 4 ∨ k = 5
    · rw [if_pos k45, if_pos k45]; exact ioEnd_per hw (by omega) hp sl _ h3 g4
    · rw [if_neg k45, if_neg k45]
      rw [wtN_per hw (by omega) hp sl h3 (by omega)]
      obtain ⟨a1, a2⟩ := wtN_bd hw (by omega) sl h3 (show s ≤ 1099511627776 by omega)
      rw [wrap_in (by omega) (by omega), wrap_in (by omega) (by omega)]; omega
end Go.Proofs.Ytnfelncgeihihaa.V
