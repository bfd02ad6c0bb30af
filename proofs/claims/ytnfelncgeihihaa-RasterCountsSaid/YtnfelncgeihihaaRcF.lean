/- raster: counting (part 6): the sums, plainly. -/
import Derived.Test.YtnfelncgeihihaaRcX
namespace Go.Proofs.Ytnfelncgeihihaa.V
open Go Go.Proofs
set_option maxRecDepth 100000
set_option maxHeartbeats 1000000
set_option linter.unusedSimpArgs false
set_option linter.unusedVariables false
theorem cnt_congr {f g : Int → Bool} : ∀ {m : Nat} {j : Int}, (∀ x, j ≤ x → x < j + m → f x = g x) → cnt f m j = cnt g m j
  | 0, j, h => rfl
  | m + 1, j, h => by
    unfold cnt
    rw [h j (by omega) (by omega), cnt_congr (m := m) (j := j + 1) (fun x h1 h2 => h x (by omega) (by omega))]
theorem cnt_succ {f : Int → Bool} {m : Nat} {j : Int} : cnt f (m + 1) j = (if f j = true then 1 else 0) + cnt f m (j + 1) := rfl
theorem cnt_add {f : Int → Bool} : ∀ {a b : Nat} {j : Int}, cnt f (a + b) j = cnt f a j + cnt f b (j + a)
  | 0, b, j => by simp [cnt]
  | a + 1, b, j => by
    rw [show a + 1 + b = (a + b) + 1 by omega, cnt_succ, cnt_succ]
    rw [cnt_add (a := a) (b := b) (j := j + 1), show j + 1 + (a : Int) = j + ((a + 1 : Nat) : Int) by omega]
    omega
theorem cnt_shift {f : Int → Bool} {s : Int} : ∀ {m : Nat} {j : Int}, cnt f m (j + s) = cnt (fun x => f (x + s)) m j
  | 0, j => rfl
  | m + 1, j => by
    unfold cnt
    rw [show j + s + 1 = (j + 1) + s by omega, cnt_shift (m := m) (j := j + 1)]
theorem cnt_none {f : Int → Bool} {m : Nat} {j : Int} (h : ∀ x, j ≤ x → x < j + m → f x = false) : cnt f m j = 0 := by
  rw [cnt_congr (g := fun _ => false) h]
  clear h
  induction m generalizing j with
  | zero => rfl
  | succ m ih => unfold cnt; rw [ih]; rfl
theorem cnt_all {f : Int → Bool} {m : Nat} {j : Int} (h : ∀ x, j ≤ x → x < j + m → f x = true) : cnt f m j = m := by
  rw [cnt_congr (g := fun _ => true) h]
  clear h
  induction m generalizing j with
  | zero => rfl
  | succ m ih => unfold cnt; rw [ih]; simp; omega
/-- What is done at a line and a column. -/
def dS (T R F W i x : Int) : Int := if T ≤ i ∧ i < T + R ∧ F ≤ x ∧ x < F + 4 * W then (if (x - F) % 8 = 0 ∨ (x - F) % 8 = 2 then 1 else if (x - F) % 8 = 1 ∨ (x - F) % 8 = 3 then 2 else 0) else if x % 8 = 0 then 3 else 0
theorem bmD_eq {L C T R F W U i x : Int} (hk : okF L C T R F W U = true) (i0 : 0 ≤ i) (i1 : i < L) (x0 : 0 ≤ x) (x1 : x < C) : bmD L C T R F W U i x = dS T R F W i x := by
  have hq := okF_iff.1 hk
  unfold bmD beamA dS
  have w1 : IntKind.i64.wrap (i - T) = i - T := wrap_in (by omega) (by omega)
  have w2 : IntKind.i64.wrap (x - F) = x - F := wrap_in (by omega) (by omega)
  have w3 : IntKind.i64.wrap (4 * W) = 4 * W := wrap_in (by omega) (by omega)
  rw [w1, w2, w3]
  by_cases h : T ≤ i ∧ i < T + R ∧ F ≤ x ∧ x < F + 4 * W
  · rw [if_pos h, if_pos (by omega)]
    unfold beamL
    rw [and7 (show 0 ≤ x - F by omega) (by omega)]
    by_cases h0 : (x - F) % 8 = 0
    · simp [h0, bm3]
    · by_cases h1 : (x - F) % 8 = 1
      · simp [h1, bm3]
      · by_cases h2 : (x - F) % 8 = 2
        · simp [h2, bm3]
        · by_cases h3 : (x - F) % 8 = 3
          · simp [h3, bm3]
          · simp [h0, h1, h2, h3, bm3]
  · rw [if_neg h, if_neg (by omega), and7 x0 (by omega)]
    by_cases h0 : x % 8 = 0
    · simp [h0, bm3]
    · simp [h0, bm3]
theorem raD_eq {L C T R F W U t : Int} (hk : okF L C T R F W U = true) (t0 : 0 ≤ t) (t1 : t < L * C) : raD L C T R F W U t = dS T R F W (t / C) (t % C) := by
  have hq := okF_iff.1 hk
  have hz := okF_sz hk
  have hl : lenF L C T R F W U = L * C := by simp [lenF, hk]
  have hn : ¬ (lenF L C T R F W U = 0 ∨ mayB t = false) := by
    rw [hl, show mayB t = true by simp [mayB, t0]; omega]
    simp; omega
  have e0 : spE L C T R F W U t = 0 := by unfold spE; rw [if_neg hn]
  have e1 : spL L C T R F W U t = t / C := by
    unfold spL; rw [if_neg hn, hl, Int.tmod_eq_emod_of_nonneg t0, Int.emod_eq_of_lt t0 t1, Int.tdiv_eq_ediv_of_nonneg t0]
  have e2 : spC L C T R F W U t = t % C := by
    unfold spC; rw [if_neg hn, Int.tmod_eq_emod_of_nonneg t0]
  have c0 := Int.emod_nonneg t (b := C) (by omega)
  have c1 := Int.emod_lt_of_pos t (b := C) (by omega)
  have d0 : 0 ≤ t / C := Int.ediv_nonneg t0 (by omega)
  have d1 : t / C < L := Int.ediv_lt_of_lt_mul (by omega) t1
  unfold raD
  rw [if_pos e0, e1, e2]
  generalize t / C = i at *
  generalize t % C = x at *
  unfold rD rK rM rP dS
  have w1 : IntKind.i64.wrap (i - T) = i - T := wrap_in (by omega) (by omega)
  have w2 : IntKind.i64.wrap (x - F) = x - F := wrap_in (by omega) (by omega)
  have w3 : IntKind.i64.wrap (4 * W) = 4 * W := wrap_in (by omega) (by omega)
  rw [w1, w2, w3, Int.tmod_eq_emod_of_nonneg c0]
  by_cases h : T ≤ i ∧ i < T + R ∧ F ≤ x ∧ x < F + 4 * W
  · rw [if_pos h, if_pos (by simp; omega), Int.tmod_eq_emod_of_nonneg (show 0 ≤ x - F by omega)]
  · rw [if_neg h, if_neg (by simp; omega)]
def dK (T R F W k i : Int) (x : Int) : Bool := decide (dS T R F W i x = k)
def linS (g : Int → Int) : Nat → Int → Int
  | 0, _ => 0
  | m + 1, i => g i + linS g m (i + 1)
theorem linS_congr {g h : Int → Int} : ∀ {m : Nat} {i : Int}, (∀ x, i ≤ x → x < i + m → g x = h x) → linS g m i = linS h m i
  | 0, i, _ => rfl
  | m + 1, i, e => by
    unfold linS
    rw [e i (by omega) (by omega), linS_congr (m := m) (i := i + 1) (fun x h1 h2 => e x (by omega) (by omega))]
theorem lin_linS {L C T R F W U k : Int} : ∀ {m : Nat} {i : Int}, lin L C T R F W U k m i = linS (fun i => row L C T R F W U k i) m i
  | 0, i => rfl
  | m + 1, i => by unfold lin linS; rw [lin_linS (m := m) (i := i + 1)]; rfl
theorem lines_eq {C T R F W k : Int} (hC : 0 < C) : ∀ {m : Nat} {i : Int}, cnt (fun t => dK T R F W k (t / C) (t % C)) (m * C.toNat) (i * C) = linS (fun i => cnt (dK T R F W k i) C.toNat 0) m i
  | 0, i => by simp [cnt, linS]
  | m + 1, i => by
    rw [show (m + 1) * C.toNat = C.toNat + m * C.toNat by rw [Nat.add_mul]; omega, cnt_add]
    unfold linS
    rw [show i * C + (C.toNat : Int) = (i + 1) * C by rw [Int.add_mul]; omega, lines_eq hC (m := m) (i := i + 1)]
    congr 1
    rw [show i * C = 0 + i * C by omega, cnt_shift]
    refine cnt_congr fun x h1 h2 => ?_
    have e1 : (x + i * C) / C = i := by rw [Int.add_mul_ediv_right _ _ (by omega), Int.ediv_eq_zero_of_lt h1 (by omega)]; omega
    have e2 : (x + i * C) % C = x := by rw [Int.add_mul_emod_self_right, Int.emod_eq_of_lt h1 (by omega)]
    rw [e1, e2]
theorem cnt8 {f : Int → Bool} {c : Int} (h : ∀ q : Int, cnt (fun x => f (x + 8 * q)) 8 0 = c) : ∀ {w : Nat} {q : Int}, cnt f (8 * w) (8 * q) = c * w
  | 0, q => by simp [cnt]
  | w + 1, q => by
    rw [show 8 * (w + 1) = 8 + 8 * w by omega, cnt_add, show 8 * q + ((8 : Nat) : Int) = 8 * (q + 1) by omega, cnt8 h (w := w) (q := q + 1), show 8 * q = 0 + 8 * q by omega, cnt_shift, h q]
    rw [show ((w + 1 : Nat) : Int) = w + 1 by omega, Int.mul_add, Int.mul_one]
    omega
def inP (T R i : Int) : Bool := decide (T ≤ i) && decide (i < T + R)
theorem dK_out {T R F W k i x : Int} (h12 : k = 1 ∨ k = 2) (h : ¬ (T ≤ i ∧ i < T + R ∧ F ≤ x ∧ x < F + 4 * W)) : dK T R F W k i x = false := by
  have e : dS T R F W i x = if x % 8 = 0 then 3 else 0 := by unfold dS; rw [if_neg h]
  unfold dK
  rw [decide_eq_false_iff_not, e]
  split <;> omega
theorem dK_in {T R F W k i x : Int} (h12 : k = 1 ∨ k = 2) (h : T ≤ i ∧ i < T + R ∧ F ≤ x + F ∧ x + F < F + 4 * W) : dK T R F W k i (x + F) = if k = 1 then decide (x % 8 = 0 ∨ x % 8 = 2) else decide (x % 8 = 1 ∨ x % 8 = 3) := by
  have e : dS T R F W i (x + F) = if x % 8 = 0 ∨ x % 8 = 2 then 1 else if x % 8 = 1 ∨ x % 8 = 3 then 2 else 0 := by
    unfold dS; rw [if_pos h, show x + F - F = x by omega]
  unfold dK
  rw [e]
  clear e h
  rcases h12 with rfl | rfl
  · by_cases q0 : x % 8 = 0 ∨ x % 8 = 2
    · simp [q0]
    · rw [if_neg q0]; simp only [q0, if_true, decide_false]; split <;> simp
  · by_cases q0 : x % 8 = 0 ∨ x % 8 = 2
    · have : ¬ (x % 8 = 1 ∨ x % 8 = 3) := by omega
      rw [if_pos q0]; simp [this]
    · rw [if_neg q0]
      by_cases q1 : x % 8 = 1 ∨ x % 8 = 3 <;> simp [q1]
theorem row_count {L C T R F W U k i : Int} (hk : okF L C T R F W U = true) (h12 : k = 1 ∨ k = 2) : cnt (dK T R F W k i) C.toNat 0 = W * (if inP T R i = true then 1 else 0) := by
  obtain ⟨⟨a1, a2⟩, ⟨b1, b2, b3⟩, ⟨d1, d2, d3⟩, ⟨e1, e2, e3⟩, ⟨f1, f2⟩, ⟨g1, g2⟩, ⟨i1, i2⟩, j1, j2, j3⟩ := okF_iff.1 hk
  rw [Int.tmod_eq_emod_of_nonneg e1] at e3
  by_cases hi : T ≤ i ∧ i < T + R
  · have hin : inP T R i = true := by simp [inP]; omega
    rw [hin, if_pos rfl, Int.mul_one]
    rw [show C.toNat = F.toNat + (8 * (W / 2).toNat + (C - F - 4 * W).toNat) by omega, cnt_add, cnt_add]
    have z1 : cnt (dK T R F W k i) F.toNat 0 = 0 := cnt_none fun x h1 h2 => dK_out h12 (by omega)
    have z2 : cnt (dK T R F W k i) (C - F - 4 * W).toNat (0 + (F.toNat : Int) + ((8 * (W / 2).toNat : Nat) : Int)) = 0 := cnt_none fun x h1 h2 => dK_out h12 (by omega)
    have z3 : cnt (dK T R F W k i) (8 * (W / 2).toNat) (0 + (F.toNat : Int)) = W := by
      rw [show (0 : Int) + (F.toNat : Int) = 0 + F by omega, cnt_shift]
      have key : cnt (fun x => dK T R F W k i (x + F)) (8 * (W / 2).toNat) 0 = cnt (fun x => if k = 1 then decide (x % 8 = 0 ∨ x % 8 = 2) else decide (x % 8 = 1 ∨ x % 8 = 3)) (8 * (W / 2).toNat) (8 * 0) := by
        exact cnt_congr fun x h1 h2 => dK_in h12 (by omega)
      rw [key, cnt8 (c := 2) ?_]
      · omega
      · intro q
        have e : ∀ x : Int, (x + 8 * q) % 8 = x % 8 := fun x => by omega
        simp only [e]
        rcases h12 with rfl | rfl <;> decide +kernel
    rw [z1, z2, z3]; omega
  · have hin : inP T R i = false := by simp [inP]; omega
    rw [hin]
    rw [cnt_none fun x h1 h2 => dK_out h12 (by omega)]
    simp
theorem linS_mul {f : Int → Bool} {W : Int} : ∀ {m : Nat} {i : Int}, linS (fun i => W * (if f i = true then 1 else 0)) m i = W * cnt f m i
  | 0, i => by simp [linS, cnt]
  | m + 1, i => by
    unfold linS
    rw [linS_mul (m := m) (i := i + 1), cnt_succ, Int.mul_add]
theorem sumB_count {L C T R F W U k : Int} (hk : okF L C T R F W U = true) (h12 : k = 1 ∨ k = 2) : sumB L C T R F W U k L = R * W := by
  have hq := okF_iff.1 hk
  unfold sumB
  rw [lin_linS, linS_congr (h := fun i => W * (if inP T R i = true then 1 else 0)) (fun i h1 h2 => ?_), linS_mul]
  · rw [show L.toNat = T.toNat + (R.toNat + (L - T - R).toNat) by omega, cnt_add, cnt_add, cnt_none fun x h1 h2 => by simp [inP]; omega, cnt_all fun x h1 h2 => by simp [inP]; omega, cnt_none fun x h1 h2 => by simp [inP]; omega]
    rw [show (0 : Int) + ((R.toNat : Int) + 0) = R by omega, Int.mul_comm]
  · rw [← row_count hk h12]
    unfold row
    exact cnt_congr fun x g1 g2 => by unfold bmK dK; rw [bmD_eq hk (by omega) (by omega) (by omega) (by omega)]
theorem sums_eq {L C T R F W U k : Int} (hk : okF L C T R F W U = true) : sumB L C T R F W U k L = sumR L C T R F W U k (L * C) := by
  have hq := okF_iff.1 hk
  have hz := okF_sz hk
  unfold sumB sumR
  have e : (L * C).toNat = L.toNat * C.toNat := by
    rw [← Int.toNat_mul (by omega) (by omega)]
  have c2 : cnt (raK L C T R F W U k) (L * C).toNat 0 = cnt (fun t => dK T R F W k (t / C) (t % C)) (L.toNat * C.toNat) (0 * C) := by
    rw [← e, Int.zero_mul]
    exact cnt_congr fun x g1 g2 => by unfold raK dK; rw [raD_eq hk (by omega) (by omega)]
  rw [c2, lines_eq (by omega), lin_linS]
  refine linS_congr fun i h1 h2 => ?_
  unfold row
  exact cnt_congr fun x g1 g2 => by unfold bmK dK; rw [bmD_eq hk (by omega) (by omega) (by omega) (by omega)]
theorem countsLaw_sc (L C T R F W U : Int) : SC Try.prog 8 [.agg [.int .i64 L, .int .i64 C, .int .i64 T, .int .i64 R, .int .i64 F, .int .i64 W, .int .i64 U]] h0 (fun u _ => u = .bool true) := by
  refine sc_of_vc XRc3_ok (by kernel_rfl) (rcl_vc L C T R F W U _) ?_
  unfold rcl_VC
  by_cases hk : okF L C T R F W U = true
  · have hq := okF_iff.1 hk
    have h1 : nLin L C T R F W U = L := by simp [nLin, hk]
    have h2 : lenF L C T R F W U = L * C := by simp [lenF, hk]
    have hm : 0 * 0 ≤ R * W ∧ R * W ≤ 192 * 32 := ⟨Int.mul_le_mul (by omega) (by omega) (by omega) (by omega), Int.mul_le_mul (by omega) (by omega) (by omega) (by omega)⟩
    have w : IntKind.i64.wrap (R * W) = R * W := wrap_in (by omega) (by omega)
    rw [h1, h2, w]
    simp [hk, ← sums_eq hk, sumB_count hk]
  · have h1 : nLin L C T R F W U = 0 := by simp [nLin, hk]
    have h2 : lenF L C T R F W U = 0 := by simp [lenF, hk]
    rw [h1, h2]
    simp [hk, sumB, sumR, lin, cnt]
end Go.Proofs.Ytnfelncgeihihaa.V
