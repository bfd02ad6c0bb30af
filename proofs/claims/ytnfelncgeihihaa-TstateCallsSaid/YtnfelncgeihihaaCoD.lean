/- contend: what a request answers; waits, plainly. contend: waits, plainly; spots told by their numbers. -/
import Derived.Test.YtnfelncgeihihaaCoW
import Derived.Laws.BitsAllLaws
namespace Go.Proofs.Ytnfelncgeihihaa.V
open Go Go.Proofs
set_option maxRecDepth 100000
set_option maxHeartbeats 4000000
set_option linter.unusedSimpArgs false
set_option linter.unusedVariables false
def evenB (a : Int) : Bool := decide (bits .and .u16 a 1 = 0)
def wtN (w : Int → Int) (c : Bool) (t : Int) : Int := if c = true then IntKind.i64.wrap (t + w t) else t
def inc (t : Int) : Int := IntKind.i64.wrap (t + 1)
def ioAt (w : Int → Int) (sl ev : Bool) (t : Int) : Int := wtN w (sl || ev) (inc (wtN w sl t))
def ioEnd (w : Int → Int) (sl ev : Bool) (t : Int) : Int := inc (wtN w (sl && !ev) (inc (wtN w (sl && !ev) (inc (ioAt w sl ev t)))))
def reqErr (L C T R F W U k a v n t : Int) : Int := if okF L C T R F W U = true ∧ stepE k a v n = 0 ∧ ¬ t < 0 ∧ ¬ t > 1099511626776 then 0 else 2
def reqAt (L C T R F W U k a v n : Int) (sl : Bool) (t : Int) : Int :=
  if reqErr L C T R F W U k a v n t = 0 then (if k = 6 then t else if k = 4 ∨ k = 5 then ioAt (waitN L C T R F W U) sl (evenB a) t else wtN (waitN L C T R F W U) sl t) else 0
def reqEnd (L C T R F W U k a v n : Int) (sl : Bool) (t : Int) : Int :=
  if reqErr L C T R F W U k a v n t = 0 then (if k = 6 then IntKind.i64.wrap (t + n) else if k = 4 ∨ k = 5 then ioEnd (waitN L C T R F W U) sl (evenB a) t else IntKind.i64.wrap (wtN (waitN L C T R F W U) sl t + n)) else 0
theorem stepE_cases (k a v n : Int) : stepE k a v n = 0 ∨ stepE k a v n = 2 := by unfold stepE; split <;> simp
theorem req_ok (L C T R F W U k a v n : Int) (sl : Bool) (t : Int) : req_VC L C T R F W U k a v n sl t (fun u => u = .tup [.int .i64 (reqAt L C T R F W U k a v n sl t), .int .i64 (reqEnd L C T R F W U k a v n sl t), .int .i64 (reqErr L C T R F W U k a v n t)]) := by
  unfold req_VC reqAt reqEnd reqErr
  by_cases hok : okF L C T R F W U = true
  · have hs := stepE_cases k a v n
    generalize stepE k a v n = se at hs ⊢
    rcases hs with rfl | rfl
    · by_cases h0 : t < 0
      · have h1 : ¬ t > 1099511626776 := by omega
        simp [hok, h0, h1]
      · by_cases h1 : t > 1099511626776
        · simp [hok, h0, h1]
        · generalize waitN L C T R F W U = w
          by_cases k6 : k = 6
          · simp [hok, h0, h1, k6]
          · by_cases k4 : k = 4
            · cases sl <;> by_cases he : bits .and .u16 a 1 = 0 <;> simp [hok, h0, h1, k6, k4, he, evenB, ioAt, ioEnd, wtN, inc]
            · by_cases k5 : k = 5
              · cases sl <;> by_cases he : bits .and .u16 a 1 = 0 <;> simp [hok, h0, h1, k6, k4, k5, he, evenB, ioAt, ioEnd, wtN, inc]
              · cases sl <;> simp [hok, h0, h1, k6, k4, k5, wtN]
    · simp [hok]
  · simp [hok]
def reqF : List AV → Option AV
  | [.agg [.int .i64 L, .int .i64 C, .int .i64 T, .int .i64 R, .int .i64 F, .int .i64 W, .int .i64 U], .agg [.int .i64 k, .int .u16 a, .int .u8 v, .int .i64 n], .bool sl, .int .i64 t] =>
    some (.tup [.int .i64 (reqAt L C T R F W U k a v n sl t), .int .i64 (reqEnd L C T R F W U k a v n sl t), .int .i64 (reqErr L C T R F W U k a v n t)])
  | _ => none
theorem req_tr : TrOk Try.prog 39 (pureT reqF) := by
  refine pureT_ok ?_
  intro xs v h
  unfold reqF at h
  split at h
  · cases h; exact ⟨rfl, rfl, sc_of_vc XCo2_ok (by kernel_rfl) (req_vc _ _ _ _ _ _ _ _ _ _ _ _ _ _) (req_ok _ _ _ _ _ _ _ _ _ _ _ _ _)⟩
  · cases h
def mostN (L C T R F W U k : Int) : Int := if okF L C T R F W U = true ∧ ¬ W = 0 ∧ ¬ R = 0 ∧ ¬ k = 6 then (if k = 4 ∨ k = 5 then 24 else 6) else 0
theorem most_ok (L C T R F W U k a v n : Int) : most_VC L C T R F W U k a v n (fun u => u = .int .i64 (mostN L C T R F W U k)) := by
  unfold most_VC mostN
  by_cases hok : okF L C T R F W U = true
  · by_cases hW : W = 0 <;> by_cases hR : R = 0 <;> by_cases k6 : k = 6 <;> by_cases k4 : k = 4 <;> by_cases k5 : k = 5 <;> simp [hok, hW, hR, k6, k4, k5]
  · simp [hok]
def mostF : List AV → Option AV
  | [.agg [.int .i64 L, .int .i64 C, .int .i64 T, .int .i64 R, .int .i64 F, .int .i64 W, .int .i64 U], .agg [.int .i64 k, .int .u16 a, .int .u8 v, .int .i64 n]] => some (.int .i64 (mostN L C T R F W U k))
  | _ => none
theorem most_tr : TrOk Try.prog 42 (pureT mostF) := by
  refine pureT_ok ?_
  intro xs v h
  unfold mostF at h
  split at h
  · cases h; exact ⟨rfl, rfl, sc_of_vc XCo2_ok (by kernel_rfl) (most_vc _ _ _ _ _ _ _ _ _ _ _ _) (most_ok _ _ _ _ _ _ _ _ _ _ _)⟩
  · cases h
def purCo3 : Pur := (39, reqF) :: (42, mostF) :: purCo2
theorem purCo3_ok : PurOk Try.prog purCo3 := PurOk.cons req_tr (PurOk.cons most_tr purCo2_ok)
noncomputable def XCo3 : Cx := cxP Try.prog purCo3 []
theorem XCo3_ok : CxOk (cxP Try.prog purCo3 []) := cxP_ok mixed purCo3_ok rfl
end Go.Proofs.Ytnfelncgeihihaa.V
namespace Go.Proofs.Ytnfelncgeihihaa.V
open Go Go.Proofs
set_option maxRecDepth 100000
set_option maxHeartbeats 1000000
set_option linter.unusedSimpArgs false
set_option linter.unusedVariables false
def spE (L C T R F W U t : Int) : Int := if lenF L C T R F W U = 0 ∨ mayB t = false then 2 else 0
def spF (L C T R F W U t : Int) : Int := if lenF L C T R F W U = 0 ∨ mayB t = false then 0 else t.tdiv (lenF L C T R F W U)
def spL (L C T R F W U t : Int) : Int := if lenF L C T R F W U = 0 ∨ mayB t = false then 0 else (t.tmod (lenF L C T R F W U)).tdiv C
def spC (L C T R F W U t : Int) : Int := if lenF L C T R F W U = 0 ∨ mayB t = false then 0 else t.tmod C
theorem spotA_eq (L C T R F W U t : Int) : spotA L C T R F W U t = .tup [.agg [.int .i64 (spF L C T R F W U t), .int .i64 (spL L C T R F W U t), .int .i64 (spC L C T R F W U t)], .int .i64 (spE L C T R F W U t)] := by
  unfold spotA spF spL spC spE
  by_cases h : lenF L C T R F W U = 0 ∨ mayB t = false <;> simp [h]
def spot3F : List AV → Option AV
  | [.agg [.int .i64 L, .int .i64 C, .int .i64 T, .int .i64 R, .int .i64 F, .int .i64 W, .int .i64 U], .int .i64 t] => some (.tup [.agg [.int .i64 (spF L C T R F W U t), .int .i64 (spL L C T R F W U t), .int .i64 (spC L C T R F W U t)], .int .i64 (spE L C T R F W U t)])
  | _ => none
theorem pureT_congr {P : Program} {f : Nat} {F G : List AV → Option AV} (h : TrOk P f (pureT F)) (e : ∀ xs v, G xs = some v → F xs = some v) : TrOk P f (pureT G) := by
  intro xs σ s K hk
  unfold pureT at hk
  split at hk
  · rename_i v hv
    exact h xs σ s K (by unfold pureT; rw [e xs v hv]; exact hk)
  · exact hk.elim
theorem spot3_some : ∀ xs v, spot3F xs = some v → spot2F xs = some v ∧ spotF xs = some v := by
  intro xs v h
  unfold spot3F at h
  split at h
  · cases h
    rename_i L C T R F W U t
    have := spotA_eq L C T R F W U t
    exact ⟨by rw [← this]; rfl, by rw [← this]; rfl⟩
  · cases h
theorem spot2_tr3 : TrOk Try.prog 41 (pureT spot3F) := pureT_congr (tr_of_good good_spot2 rfl) (fun xs v h => (spot3_some xs v h).1)
def purCo4 : Pur := (41, spot3F) :: purCo3
theorem purCo4_ok : PurOk Try.prog purCo4 := PurOk.cons spot2_tr3 purCo3_ok
noncomputable def XCo4 : Cx := cxP Try.prog purCo4 []
theorem XCo4_ok : CxOk (cxP Try.prog purCo4 []) := cxP_ok mixed purCo4_ok rfl

theorem line_step {L C t d : Int} (hC : 0 < C) (hL : 0 < L) (ht : 0 ≤ t) (hd : 0 ≤ d) (h : t % C + d < C) : (t + d) % C = t % C + d ∧ (t + d) % (L * C) / C = t % (L * C) / C := by
  have hl : 0 < L * C := Int.mul_pos hL hC
  have r0 : 0 ≤ t % (L * C) := Int.emod_nonneg _ (by omega)
  have r1 : t % (L * C) < L * C := Int.emod_lt_of_pos _ hl
  have c0 : 0 ≤ t % C := Int.emod_nonneg _ (by omega)
  have e1 : t % (L * C) % C = t % C := Int.emod_emod_of_dvd t (Int.dvd_mul_left _ _)
  have e2 := Int.mul_ediv_add_emod (t % (L * C)) C
  rw [e1] at e2
  generalize hy : t % (L * C) / C = y at e2 ⊢
  have y1 : y < L := by
    rw [← hy]
    exact Int.ediv_lt_of_lt_mul hC r1
  have y2 : C * y + C ≤ L * C := by
    have := Int.mul_le_mul_of_nonneg_left (show y + 1 ≤ L by omega) (show 0 ≤ C by omega)
    rw [Int.mul_add, Int.mul_one, Int.mul_comm C L] at this
    exact this
  have e3 : (t + d) % (L * C) = t % (L * C) + d := by
    rw [← Int.emod_add_emod]
    exact Int.emod_eq_of_lt (by omega) (by omega)
  constructor
  · have : (t + d) % C = (t % C + d) % C := by rw [Int.emod_add_emod]
    rw [this]
    exact Int.emod_eq_of_lt (by omega) h
  · rw [e3, ← e2, show C * y + t % C + d = (t % C + d) + C * y by omega, Int.add_mul_ediv_left _ _ (by omega), Int.ediv_eq_zero_of_lt (by omega) h]
    omega
/-- A wait, without wraps. -/
def wt (L C T R F W t : Int) : Int := if T ≤ t % (L * C) / C ∧ t % (L * C) / C < T + R ∧ F - 1 ≤ t % C ∧ t % C - (F - 1) < 4 * W then max 0 (6 - (t % C - (F - 1)) % 8) else 0
theorem waitN_eq {L C T R F W U t : Int} (hk : okF L C T R F W U = true) (h0 : 0 ≤ t) (h1 : t ≤ 1099511627776) : waitN L C T R F W U t = wt L C T R F W t := by
  have hi := okF_iff.1 hk
  have hz := okF_sz hk
  have hlen : lenF L C T R F W U = L * C := by simp [lenF, hk]
  have hmay : mayB t = true := by simp [mayB, h0, h1]
  unfold waitN wt
  have hn : ¬ (lenF L C T R F W U = 0 ∨ mayB t = false) := by rw [hlen, hmay]; simp; omega
  rw [if_neg hn, hlen]
  have c0 : 0 ≤ t % C := Int.emod_nonneg _ (by omega)
  have c1 : t % C < C := Int.emod_lt_of_pos _ (by omega)
  rw [Int.tmod_eq_emod_of_nonneg h0, Int.tmod_eq_emod_of_nonneg h0, Int.tdiv_eq_ediv_of_nonneg (Int.emod_nonneg _ (by omega))]
  have w1 : IntKind.i64.wrap (F - 1) = F - 1 := wrap_in (by omega) (by omega)
  have w2 : IntKind.i64.wrap (T + R) = T + R := wrap_in (by omega) (by omega)
  have w3 : IntKind.i64.wrap (4 * W) = 4 * W := wrap_in (by omega) (by omega)
  have w4 : IntKind.i64.wrap (t % C - (F - 1)) = t % C - (F - 1) := wrap_in (by omega) (by omega)
  rw [w1, w2, w3, w4]
  generalize t % (L * C) / C = y
  generalize hq : t % C - (F - 1) = q
  by_cases hc : T ≤ y ∧ y < T + R ∧ 0 ≤ q ∧ q < 4 * W
  · rw [if_neg (by omega), if_pos (by omega), and7 (by omega) (by omega)]
    rw [wrap_in (by omega) (by omega)]
  · rw [if_pos (by omega), if_neg (by omega)]
theorem wt_bd (L C T R F W t : Int) : 0 ≤ wt L C T R F W t ∧ wt L C T R F W t ≤ 6 := by
  unfold wt
  split <;> omega
theorem wt_step {L C T R F W U t : Int} (hk : okF L C T R F W U = true) (h0 : 0 ≤ t) : wt L C T R F W t ≤ 1 + wt L C T R F W (t + 1) := by
  have hi := okF_iff.1 hk
  have hW : W % 2 = 0 := by
    have := hi.2.2.2.1.2.2
    rw [Int.tmod_eq_emod_of_nonneg (by omega)] at this
    exact this
  have hb := wt_bd L C T R F W (t + 1)
  unfold wt at hb ⊢
  by_cases hc : T ≤ t % (L * C) / C ∧ t % (L * C) / C < T + R ∧ F - 1 ≤ t % C ∧ t % C - (F - 1) < 4 * W
  · rw [if_pos hc]
    by_cases h8 : (t % C - (F - 1)) % 8 ≤ 4
    · obtain ⟨e1, e2⟩ := line_step (L := L) (C := C) (t := t) (d := 1) (by omega) (by omega) h0 (by omega) (by omega)
      rw [e1, e2, if_pos (by omega)]
      omega
    · omega
  · rw [if_neg hc]; omega
theorem wt_mono {L C T R F W U s : Int} (hk : okF L C T R F W U = true) (h0 : 0 ≤ s) : ∀ d : Nat, s + wt L C T R F W s ≤ s + d + wt L C T R F W (s + d)
  | 0 => by simp
  | d + 1 => by
    have h1 := wt_mono hk h0 d
    have h2 := wt_step hk (t := s + d) (by omega)
    have e : s + ((d + 1 : Nat) : Int) = s + d + 1 := by omega
    rw [e]
    omega
theorem wt_behind {L C T R F W U t : Int} (hk : okF L C T R F W U = true) (h0 : 0 ≤ t) (h : 0 < wt L C T R F W t) : wt L C T R F W (t + wt L C T R F W t) = 0 := by
  have hi := okF_iff.1 hk
  have hW : W % 2 = 0 := by
    have := hi.2.2.2.1.2.2
    rw [Int.tmod_eq_emod_of_nonneg (by omega)] at this
    exact this
  unfold wt at h
  by_cases hc : T ≤ t % (L * C) / C ∧ t % (L * C) / C < T + R ∧ F - 1 ≤ t % C ∧ t % C - (F - 1) < 4 * W
  · rw [if_pos hc] at h
    have hd : wt L C T R F W t = 6 - (t % C - (F - 1)) % 8 := by unfold wt; rw [if_pos hc]; omega
    rw [hd]
    obtain ⟨e1, e2⟩ := line_step (L := L) (C := C) (t := t) (d := 6 - (t % C - (F - 1)) % 8) (by omega) (by omega) h0 (by omega) (by omega)
    unfold wt
    rw [e1, e2]
    split <;> omega
  · rw [if_neg hc] at h; omega
theorem waitN_bd (L C T R F W U t : Int) : 0 ≤ waitN L C T R F W U t ∧ waitN L C T R F W U t ≤ 6 := by
  by_cases hk : okF L C T R F W U = true
  · by_cases hm : 0 ≤ t ∧ t ≤ 1099511627776
    · rw [waitN_eq hk hm.1 hm.2]; exact wt_bd _ _ _ _ _ _ _
    · have : mayB t = false := by rw [Bool.eq_false_iff]; intro h; exact hm (mayB_true h)
      simp [waitN, this]
  · simp [waitN, lenF, hk]
end Go.Proofs.Ytnfelncgeihihaa.V
