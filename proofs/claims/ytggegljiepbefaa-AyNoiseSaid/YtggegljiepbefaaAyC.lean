/- ay: the laws of the noise and of envelopes over plain values. -/
import Derived.Test.YtggegljiepbefaaAyW
import Derived.Laws.BitsAllLaws
namespace Go.Proofs.Ytggegljiepbefaa.V
open Go Go.Proofs
set_option maxRecDepth 100000
set_option linter.unusedSimpArgs false
set_option linter.unusedVariables false
theorem sc_of_fun2 {X : Cx} (hX : CxOk X) {f : Nat} (hd : okFunsX X.P [f] = true) (hl : X.lps = lookL []) {xs : List AV} {σ : AH} {s : Plan} {K : AV → Prop} {A : Prop} (e : funP X f xs σ s (fun v _ _ => K v) = A) (h : A) : SC X.P f xs σ (fun u _ => K u) := sc_of_fun hX hd hl e h
theorem noiseN_eq {x : Int} (h1 : 0 ≤ x) (h2 : x < 131072) : noiseN x = x / 2 + 65536 * ((x + x / 8) % 2) := by
  obtain ⟨n, rfl⟩ := Int.eq_ofNat_of_zero_le h1
  have e0 : ((n : Int)).tmod 131072 = n := by rw [Int.tmod_eq_emod_of_nonneg h1]; omega
  have e1 : bits .xor .u32 (n : Int) ((n : Int) / 8) = ((n ^^^ (n / 8) : Nat) : Int) := by
    have := u32_xor_nat n (n / 8) (by omega) (by omega)
    rw [← this]; congr 1
  have l1 : n ^^^ (n / 8) < 4294967296 := Nat.xor_lt_two_pow (n := 32) (by omega) (by omega)
  have e2 : bits .and .u32 (((n ^^^ (n / 8) : Nat) : Int)) 1 = (((n + n / 8) % 2 : Nat) : Int) := by
    have := u32_and_nat (n ^^^ (n / 8)) 1 l1 (by omega)
    rw [show (1 : Int) = ((1 : Nat) : Int) from rfl, this]
    congr 1
    rw [Nat.and_one_is_mod]
    have h3 : (n ^^^ (n / 8)) % 2 = ((n % 2) ^^^ ((n / 8) % 2)) := by
      have := Nat.xor_mod_two_pow (a := n) (b := n / 8) (n := 1)
      simpa using this
    rw [h3]
    rcases Nat.mod_two_eq_zero_or_one n with a | a <;> rcases Nat.mod_two_eq_zero_or_one (n / 8) with b | b <;> simp [a, b] <;> omega
  unfold noiseN
  rw [e0, e1, e2]
  have e3 : IntKind.u32.wrap ((((n + n / 8) % 2 : Nat) : Int) * 65536) = (((n + n / 8) % 2 : Nat) : Int) * 65536 := by
    rw [IntKind.wrap_u32]; omega
  rw [e3]
  have hb : (n + n / 8) % 2 = 0 ∨ (n + n / 8) % 2 = 1 := by omega
  have e4 := u32_or_nat (n / 2) ((n + n / 8) % 2 * 65536) (by omega) (by omega)
  have e5 := Nat.two_pow_add_eq_or_of_lt (i := 16) (b := n / 2) (by omega) ((n + n / 8) % 2)
  rw [Nat.or_comm] at e5
  have e6 : (n / 2 ||| (n + n / 8) % 2 * 65536) = 65536 * ((n + n / 8) % 2) + n / 2 := by
    rw [Nat.mul_comm ((n + n / 8) % 2)]; exact e5.symm
  rw [e6] at e4
  have e7 : ((((n + n / 8) % 2 * 65536 : Nat)) : Int) = (((n + n / 8) % 2 : Nat) : Int) * 65536 := by simp
  have e8 : ((n / 2 : Nat) : Int) = (n : Int) / 2 := by simp
  rw [e7, e8] at e4
  rw [e4]
  omega
theorem noise_inj {X Y : Int} (a1 : 0 ≤ X) (a2 : X < 131072) (b1 : 0 ≤ Y) (b2 : Y < 131072) (h : X / 2 + 65536 * ((X + X / 8) % 2) = Y / 2 + 65536 * ((Y + Y / 8) % 2)) : X = Y := by
  have p : ∀ z : Int, (z + z / 8) % 2 = (z % 2 + z / 2 / 4) % 2 := fun z => by
    have h8 : z / 8 = z / 2 / 4 := by omega
    rw [h8]
    generalize z / 2 / 4 = q
    omega
  rw [p X, p Y] at h
  have u1 : 0 ≤ X / 2 ∧ X / 2 < 65536 := by omega
  have u2 : 0 ≤ Y / 2 ∧ Y / 2 < 65536 := by omega
  have r1 : (X % 2 + X / 2 / 4) % 2 = 0 ∨ (X % 2 + X / 2 / 4) % 2 = 1 := by omega
  have r2 : (Y % 2 + Y / 2 / 4) % 2 = 0 ∨ (Y % 2 + Y / 2 / 4) % 2 = 1 := by omega
  have hu : X / 2 = Y / 2 := by omega
  have hr : (X % 2 + X / 2 / 4) % 2 = (Y % 2 + Y / 2 / 4) % 2 := by omega
  rw [hu] at hr
  omega
theorem noise_mod {u z : Int} (h1 : 0 ≤ u) (h2 : u < 65536) (h3 : 0 ≤ z) (h4 : z ≤ 1) : (u + 65536 * z) % 65536 = u % 4294967296 := by omega
theorem noise_zero {X : Int} (a1 : 0 ≤ X) (a2 : X < 131072) (h : X / 2 + 65536 * ((X + X / 8) % 2) = 0) : X = 0 := by
  have : X / 2 = 0 := by
    have : 0 ≤ (X + X / 8) % 2 := by omega
    omega
  have : X = 0 ∨ X = 1 := by omega
  rcases this with h' | h'
  · exact h'
  · subst h'; simp at h
theorem noiseLaw_sc (x y : Int) (hx : (Lit.int .u32 x).wf = true) (hy : (Lit.int .u32 y).wf = true) : SC Try.prog 3 [.int .u32 x, .int .u32 y] h0 (fun u _ => u = .bool true) := by
  refine sc_of_fun XAy2_ok (by kernel_rfl) rfl (noiseL_vc x y _) ?_
  have wf : ∀ z : Int, (Lit.int .u32 z).wf = true → 0 ≤ z.tmod 131072 ∧ z.tmod 131072 < 131072 := by
    intro z hz
    simp only [Lit.wf, Bool.and_eq_true, decide_eq_true_eq] at hz
    have e1 : IntKind.u32.min = 0 := by decide +kernel
    rw [Int.tmod_eq_emod_of_nonneg (by omega)]
    omega
  obtain ⟨a1, a2⟩ := wf x hx
  obtain ⟨b1, b2⟩ := wf y hy
  unfold noiseL_VC
  generalize x.tmod 131072 = X at a1 a2 ⊢
  generalize y.tmod 131072 = Y at b1 b2 ⊢
  have eX := noiseN_eq a1 a2
  have eY := noiseN_eq b1 b2
  have f1 : (noiseN X = noiseN Y) ↔ X = Y := ⟨fun h => noise_inj a1 a2 b1 b2 (by rw [← eX, ← eY]; exact h), fun h => by rw [h]⟩
  have pb : 0 ≤ (X + X / 8) % 2 ∧ (X + X / 8) % 2 ≤ 1 := by omega
  have f2 : ¬ noiseN X ≥ 131072 := by omega
  have f3 : (noiseN X).tmod 65536 = IntKind.u32.wrap (X.tdiv 2) := by
    rw [Int.tmod_eq_emod_of_nonneg (by omega), Int.tdiv_eq_ediv_of_nonneg a1, IntKind.wrap_u32, eX]
    exact noise_mod (by omega) (by omega) pb.1 pb.2
  have f4 : (noiseN X = 0) ↔ X = 0 := ⟨fun h => noise_zero a1 a2 (by rw [← eX]; exact h), fun h => by rw [eX, h]; decide +kernel⟩
  have f5 : noiseN X < 131072 := by omega
  by_cases h : X = Y
  · subst h
    simp [f2, f3, f4, f5]
  · simp [f1, f2, f3, f4, f5, h]
def chkP (s p : Nat) : Bool :=
  let v := envN s p
  let d := v - envN s (p - 1 : Int)
  decide (0 ≤ v) && decide (v ≤ 15) && decide (v + envN (bits .xor .u8 s 4) p = 15) && decide (envN s (p + 32 : Int) = v) && decide (envN (bits .and .u8 s 15) p = v) &&
    (decide (p = 0) || (decide (d = 1) == !decide (bits .and .u8 (s : Int) 4 = 0)) && (decide (d = 1) || decide (d = -1)))
def chkQ (s q : Nat) : Bool :=
  let w := envN s (16 + q : Int)
  decide (0 ≤ w) && decide (w ≤ 15) && decide (envN s (48 + q : Int) = w) &&
    (if bits .and .u8 (s : Int) 8 = 0 then decide (w = 0) else if bits .and .u8 (s : Int) 1 = 0 then (if bits .and .u8 (s : Int) 2 = 0 then decide (w = envN s q) else decide (w = 15 - envN s q))
     else decide (w = envN s 16) && (decide (w = envN s 15) == decide (bits .and .u8 (s : Int) 2 = 0)))
theorem allPQ : ((List.range 256).all fun s => (List.range 16).all fun p => chkP s p && chkQ s p) = true := by kernel_rfl
theorem shapeLaw_sc (s p q : Int) (hs : (Lit.int .u8 s).wf = true) (hp : (Lit.int .i64 p).wf = true) (hq : (Lit.int .i64 q).wf = true) : SC Try.prog 4 [.int .u8 s, .int .i64 p, .int .i64 q] h0 (fun u _ => u = .bool true) := by
  refine sc_of_fun XAy2_ok (by kernel_rfl) rfl (shapeL_vc s p q _) ?_
  have hs' : 0 ≤ s ∧ s < 256 := by
    simp only [Lit.wf, Bool.and_eq_true, decide_eq_true_eq] at hs
    have e1 : IntKind.u8.min = 0 := by decide +kernel
    have e2 : IntKind.u8.max = 255 := by decide +kernel
    omega
  have pk : ∀ z : Int, 0 ≤ pick z 16 ∧ pick z 16 < 16 := by
    intro z
    unfold pick
    have h1 := Int.tmod_lt_of_pos z (b := 16) (by omega)
    have h2 := Int.lt_tmod_of_pos z (b := 16) (by omega)
    split
    · omega
    · split
      · rw [IntKind.wrap_i64]; omega
      · omega
  obtain ⟨P, hP⟩ := Int.eq_ofNat_of_zero_le (pk p).1
  obtain ⟨Q, hQ⟩ := Int.eq_ofNat_of_zero_le (pk q).1
  obtain ⟨S, rfl⟩ := Int.eq_ofNat_of_zero_le hs'.1
  have hP2 := (pk p).2
  have hQ2 := (pk q).2
  have key := allPQ
  rw [List.all_eq_true] at key
  have k1 := key S (by simp; omega)
  rw [List.all_eq_true] at k1
  have kP := k1 P (by simp; omega)
  have kQ := k1 Q (by simp; omega)
  simp only [Bool.and_eq_true] at kP kQ
  have kP := kP.1
  have kQ := kQ.2
  clear key k1 hs hp hq
  unfold chkP at kP
  unfold chkQ at kQ
  simp only [Bool.and_eq_true, decide_eq_true_eq, Bool.or_eq_true, and_assoc] at kP kQ
  obtain ⟨p1, p2, p3, p4, p5, p6⟩ := kP
  obtain ⟨q1, q2, q3, q4⟩ := kQ
  unfold shapeL_VC
  rw [hP, hQ]
  have w1 : IntKind.i64.wrap (16 + (Q : Int)) = 16 + Q := by rw [IntKind.wrap_i64]; omega
  have w2 : IntKind.i64.wrap ((P : Int) + 32) = P + 32 := by rw [IntKind.wrap_i64]; omega
  have w3 : IntKind.i64.wrap (48 + (Q : Int)) = 48 + Q := by rw [IntKind.wrap_i64]; omega
  have w4 : IntKind.i64.wrap ((P : Int) - 1) = P - 1 := by rw [IntKind.wrap_i64]; omega
  have w5 : IntKind.i64.wrap (envN S P + envN (bits .xor .u8 S 4) P) = 15 := by rw [p3]; decide +kernel
  have w6 : IntKind.i64.wrap (envN S P - envN S (P - 1 : Int)) = envN S P - envN S (P - 1 : Int) ∨ P = 0 := by
    rcases Nat.eq_zero_or_pos P with h | h
    · exact .inr h
    · left
      rcases p6 with h' | ⟨_, h' | h'⟩
      · omega
      · rw [h']; decide +kernel
      · rw [h']; decide +kernel
  have w7 : IntKind.i64.wrap (15 - envN S Q) = 15 - envN S Q ∨ ¬ (0 ≤ envN S Q ∧ envN S Q ≤ 15) := by
    by_cases h : 0 ≤ envN S Q ∧ envN S Q ≤ 15
    · left; rw [IntKind.wrap_i64]; omega
    · exact .inr h
  have eq15 : 0 ≤ envN S Q ∧ envN S Q ≤ 15 := by
    have k2 := allPQ
    rw [List.all_eq_true] at k2
    have k3 := k2 S (by simp; omega)
    rw [List.all_eq_true] at k3
    have k4 := k3 Q (by simp; omega)
    simp only [Bool.and_eq_true] at k4
    have k5 := k4.1
    unfold chkP at k5
    simp only [Bool.and_eq_true, decide_eq_true_eq, and_assoc] at k5
    exact ⟨k5.1, k5.2.1⟩
  have w7 : IntKind.i64.wrap (15 - envN S Q) = 15 - envN S Q := w7.resolve_right (fun h => h eq15)
  have n1 : ¬ envN S P < 0 := by omega
  have n2 : ¬ envN S P > 15 := by omega
  have n3 : ¬ envN S (16 + (Q : Int)) < 0 := by omega
  have n4 : ¬ envN S (16 + (Q : Int)) > 15 := by omega
  simp only [w1, w2, w3, w4, w5, w7, p4, p5, q3, n1, n2, n3, n4]
  generalize envN S P = v at *
  generalize envN S (P - 1 : Int) = v' at *
  generalize envN S (16 + (Q : Int)) = w at *
  generalize envN S (Q : Int) = w' at *
  generalize envN S 16 = w16 at *
  generalize envN S 15 = w15 at *
  generalize bits .and .u8 (S : Int) 8 = b8 at *
  generalize bits .and .u8 (S : Int) 4 = b4 at *
  generalize bits .and .u8 (S : Int) 2 = b2 at *
  generalize bits .and .u8 (S : Int) 1 = b1 at *
  by_cases hP0 : P = 0
  · subst hP0
    by_cases h8 : b8 = 0 <;> by_cases h1 : b1 = 0 <;> by_cases h2 : b2 = 0 <;> by_cases h16 : w = w16 <;> by_cases h15 : w = w15 <;> simp_all
  · have hpos : (P : Int) > 0 := by omega
    have w6 := w6.resolve_right hP0
    have p6 := p6.resolve_left hP0
    rw [w6]
    by_cases h8 : b8 = 0 <;> by_cases h1 : b1 = 0 <;> by_cases h2 : b2 = 0 <;> by_cases h4 : b4 = 0 <;> by_cases hd : v - v' = 1 <;> by_cases h16 : w = w16 <;> by_cases h15 : w = w15 <;> simp_all
end Go.Proofs.Ytggegljiepbefaa.V
