/- contend: the laws of waits and of ports over plain values. -/
import Derived.Test.YtnfelncgeihihaaCoX
import Derived.Laws.BitsAllLaws
namespace Go.Proofs.Ytnfelncgeihihaa.V
open Go Go.Proofs
set_option maxRecDepth 100000
set_option maxHeartbeats 4000000
set_option linter.unusedSimpArgs false
set_option linter.unusedVariables false
theorem waitN_W0 (L C T R F U t : Int) : waitN L C T R F 0 U t = 0 := by
  unfold waitN
  split
  · rfl
  · rw [if_pos]
    have : IntKind.i64.wrap (4 * 0) = 0 := by decide +kernel
    rw [this]
    omega
theorem inc_in {t : Int} (h1 : 0 ≤ t) (h2 : t ≤ 1099511627776) : inc t = t + 1 := wrap_in (by omega) (by omega)
theorem wtN_in {w : Int → Int} (hw : ∀ s, 0 ≤ w s ∧ w s ≤ 6) {c : Bool} {t : Int} (h1 : 0 ≤ t) (h2 : t ≤ 1099511627776) : wtN w c t = t + (if c = true then w t else 0) := by
  unfold wtN
  have := hw t
  cases c
  · simp
  · simp only [if_true]; exact wrap_in (by omega) (by omega)
theorem stepE_zero {k a v n : Int} (h : stepE k a v n = 0) : (k = 4 → n = 4) ∧ (k = 5 → n = 4) ∧ 1 ≤ n ∧ n ≤ 7 ∧ 1 ≤ k ∧ k ≤ 7 := by
  unfold stepE at h
  by_cases hb : stepB k a v n = true
  · unfold stepB at hb
    split at hb
    · simp at hb; omega
    · simp at hb; omega
  · rw [if_neg hb] at h; omega
theorem reqErr_zero {L C T R F W U k a v n t : Int} (h : reqErr L C T R F W U k a v n t = 0) : okF L C T R F W U = true ∧ stepE k a v n = 0 ∧ 0 ≤ t ∧ t ≤ 1099511626776 := by
  unfold reqErr at h
  split at h
  · rename_i q; exact ⟨q.1, q.2.1, by omega, by omega⟩
  · omega
theorem bare {L C T R F U k a v n t : Int} {sl : Bool} (h : reqErr L C T R F 0 U k a v n t = 0) :
    mostN L C T R F 0 U k = 0 ∧ reqEnd L C T R F 0 U k a v n sl t = IntKind.i64.wrap (t + n) ∧ reqAt L C T R F 0 U k a v n sl t ≥ t ∧ reqAt L C T R F 0 U k a v n sl t ≤ IntKind.i64.wrap (t + 1) := by
  obtain ⟨h1, h2, h3, h4⟩ := reqErr_zero h
  have hs := stepE_zero h2
  refine ⟨by simp [mostN], ?_⟩
  unfold reqEnd reqAt
  rw [if_pos h, if_pos h]
  have hw : (waitN L C T R F 0 U) = fun _ => 0 := funext fun s => waitN_W0 L C T R F U s
  rw [hw]
  have e1 : IntKind.i64.wrap (t + 1) = t + 1 := wrap_in (by omega) (by omega)
  have w0 : ∀ s : Int, (0 : Int) ≤ (fun _ : Int => (0 : Int)) s ∧ (fun _ : Int => (0 : Int)) s ≤ 6 := fun s => by simp
  by_cases k6 : k = 6
  · rw [if_pos k6, if_pos k6, e1]; refine ⟨rfl, ?_, ?_⟩ <;> omega
  · rw [if_neg k6, if_neg k6]
    by_cases k45 : k = 4 ∨ k = 5
    · rw [if_pos k45, if_pos k45]
      have hn : n = 4 := by rcases k45 with q | q; exact hs.1 q; exact hs.2.1 q
      unfold ioEnd ioAt
      simp only [wtN_in w0 h3 (show t ≤ 1099511627776 by omega), inc_in h3 (show t ≤ 1099511627776 by omega), ite_self, Int.add_zero]
      simp only [wtN_in w0 (show 0 ≤ t + 1 by omega) (show t + 1 ≤ 1099511627776 by omega), inc_in (show 0 ≤ t + 1 by omega) (show t + 1 ≤ 1099511627776 by omega), ite_self, Int.add_zero]
      simp only [wtN_in w0 (show 0 ≤ t + 1 + 1 by omega) (show t + 1 + 1 ≤ 1099511627776 by omega), inc_in (show 0 ≤ t + 1 + 1 by omega) (show t + 1 + 1 ≤ 1099511627776 by omega), ite_self, Int.add_zero]
      simp only [wtN_in w0 (show 0 ≤ t + 1 + 1 + 1 by omega) (show t + 1 + 1 + 1 ≤ 1099511627776 by omega), inc_in (show 0 ≤ t + 1 + 1 + 1 by omega) (show t + 1 + 1 + 1 ≤ 1099511627776 by omega), ite_self, Int.add_zero]
      rw [e1, wrap_in (by omega) (by omega)]
      refine ⟨?_, ?_, ?_⟩ <;> omega
    · rw [if_neg k45, if_neg k45, wtN_in w0 h3 (by omega), e1]
      simp only [ite_self, Int.add_zero]
      refine ⟨trivial, ?_, ?_⟩ <;> omega
theorem waitN_pos {L C T R F W U t : Int} (h : waitN L C T R F W U t ≠ 0) : okF L C T R F W U = true ∧ 0 ≤ t ∧ t ≤ 1099511627776 := by
  unfold waitN at h
  by_cases hl : lenF L C T R F W U = 0 ∨ mayB t = false
  · rw [if_pos hl] at h; exact absurd rfl h
  · have h2 : mayB t = true := by
      cases hm : mayB t
      · exact absurd (.inr hm) hl
      · rfl
    have h3 : okF L C T R F W U = true := by
      cases ho : okF L C T R F W U
      · exact absurd (.inl (by simp [lenF, ho])) hl
      · rfl
    exact ⟨h3, mayB_true h2⟩
theorem waitsLaw_sc (L C T R F W U t k a v n : Int) (sl : Bool) : SC Try.prog 12 [.agg [.int .i64 L, .int .i64 C, .int .i64 T, .int .i64 R, .int .i64 F, .int .i64 W, .int .i64 U], .int .i64 t, .agg [.int .i64 k, .int .u16 a, .int .u8 v, .int .i64 n], .bool sl] h0 (fun u _ => u = .bool true) := by
  refine sc_of_vc XCo4_ok (by kernel_rfl) (waits_vc L C T R F W U t k a v n sl _) ?_
  unfold waits_VC
  have hb := waitN_bd L C T R F W U t
  have n1 : ¬ waitN L C T R F W U t < 0 := by omega
  have n2 : ¬ waitN L C T R F W U t > 6 := by omega
  have fin : reqErr L C T R F 0 U k a v n t = 0 → mostN L C T R F 0 U k = 0 ∧ reqEnd L C T R F 0 U k a v n sl t = IntKind.i64.wrap (t + n) ∧ reqAt L C T R F 0 U k a v n sl t ≥ t ∧ reqAt L C T R F 0 U k a v n sl t ≤ IntKind.i64.wrap (t + 1) := fun h => bare h
  have w0 := waitN_W0 L C T R F U t
  by_cases hw : waitN L C T R F W U t = 0
  · simp only [hw, w0]
    by_cases he : reqErr L C T R F 0 U k a v n t = 0
    · obtain ⟨f1, f2, f3, f4⟩ := fin he
      by_cases hs : spE L C T R F W U t = 0 <;> by_cases h1 : spL L C T R F W U t < T <;> by_cases h2 : spL L C T R F W U t ≥ IntKind.i64.wrap (T + R) <;> by_cases h3 : W = 0 <;> simp [he, f1, f2, f3, f4, hs, h1, h2, h3]
    · by_cases hs : spE L C T R F W U t = 0 <;> by_cases h1 : spL L C T R F W U t < T <;> by_cases h2 : spL L C T R F W U t ≥ IntKind.i64.wrap (T + R) <;> by_cases h3 : W = 0 <;> simp [he, hs, h1, h2, h3]
  · obtain ⟨hk, t0, t1⟩ := waitN_pos hw
    have ht : lenF L C T R F W U ≠ 0 ∧ mayB t = true := by
      have := okF_sz hk
      exact ⟨by rw [show lenF L C T R F W U = L * C by simp [lenF, hk]]; omega, by simp [mayB, t0, t1]⟩
    have hs : spE L C T R F W U t = 0 := by unfold spE; rw [if_neg (by simp [ht.1, ht.2])]
    have hpos : waitN L C T R F W U t > 0 := by omega
    have heq := waitN_eq hk t0 t1
    have hi := okF_iff.1 hk
    have hsp : spL L C T R F W U t = t % (L * C) / C := by
      unfold spL
      have hz := okF_sz hk
      rw [if_neg (by simp [ht.1, ht.2]), show lenF L C T R F W U = L * C by simp [lenF, hk], Int.tmod_eq_emod_of_nonneg t0, Int.tdiv_eq_ediv_of_nonneg (Int.emod_nonneg _ (by omega))]
    have hin : T ≤ t % (L * C) / C ∧ t % (L * C) / C < T + R ∧ F - 1 ≤ t % C ∧ t % C - (F - 1) < 4 * W := by
      rw [heq] at hw
      unfold wt at hw
      by_cases hc : T ≤ t % (L * C) / C ∧ t % (L * C) / C < T + R ∧ F - 1 ≤ t % C ∧ t % C - (F - 1) < 4 * W
      · exact hc
      · rw [if_neg hc] at hw; exact absurd rfl hw
    have h1 : ¬ spL L C T R F W U t < T := by rw [hsp]; omega
    have h2 : ¬ spL L C T R F W U t ≥ IntKind.i64.wrap (T + R) := by rw [hsp, wrap_in (by omega) (by omega)]; omega
    have h3 : ¬ W = 0 := by omega
    have hbeh : waitN L C T R F W U (IntKind.i64.wrap (t + waitN L C T R F W U t)) = 0 := by
      rw [wrap_in (by omega) (by omega)]
      by_cases hlast : t + waitN L C T R F W U t ≤ 1099511627776
      · rw [waitN_eq hk (by omega) hlast, heq]
        exact wt_behind hk t0 (by omega)
      · have : mayB (t + waitN L C T R F W U t) = false := by rw [Bool.eq_false_iff]; intro q; exact hlast (mayB_true q).2
        unfold waitN at this ⊢
        simp [this]
    simp only [hbeh]
    by_cases he : reqErr L C T R F 0 U k a v n t = 0
    · obtain ⟨f1, f2, f3, f4⟩ := fin he
      simp [he, f1, f2, f3, f4, hs, h1, h2, h3, n1, n2, hpos, w0]
    · simp [he, hs, h1, h2, h3, n1, n2, hpos, w0]
theorem even_same {a o : Int} (ha : 0 ≤ a ∧ a < 65536) (ho : 0 ≤ o ∧ o < 65536) : evenB (bits .or .u16 (bits .andNot .u16 o 1) (bits .and .u16 a 1)) = evenB a ∧ (evenB a = true ↔ a.tmod 2 = 0) := by
  have m1 : ∀ n : Nat, n < 65536 → bits .and .u16 (n : Int) 1 = ((n % 2 : Nat) : Int) := fun n hn => by
    have := u16_and_nat n 1 hn (by omega)
    rw [Nat.and_one_is_mod] at this
    exact this
  obtain ⟨m, rfl⟩ := Int.eq_ofNat_of_zero_le ha.1
  obtain ⟨p, rfl⟩ := Int.eq_ofNat_of_zero_le ho.1
  have hm : m < 65536 := by omega
  have hp : p < 65536 := by omega
  have e1 := u16_andNot_nat p 1 hp (by omega)
  have l1 : p &&& (65535 - 1) < 65536 := Nat.lt_of_le_of_lt Nat.and_le_left hp
  have l2 : m % 2 < 65536 := by omega
  have e2 := u16_or_nat (p &&& (65535 - 1)) (m % 2) l1 l2
  have l3 : ((p &&& (65535 - 1)) ||| m % 2) < 65536 := Nat.or_lt_two_pow (n := 16) l1 l2
  have e3 : ((p &&& (65535 - 1)) ||| m % 2) % 2 = m % 2 := by
    have h1 := Nat.or_mod_two_pow (a := p &&& (65535 - 1)) (b := m % 2) (n := 1)
    have h2 := Nat.and_mod_two_pow (a := p) (b := 65535 - 1) (n := 1)
    simp only [Nat.pow_one] at h1 h2
    rw [h1, h2]
    simp
  have key : bits .and .u16 (bits .or .u16 (bits .andNot .u16 (p : Int) 1) (bits .and .u16 (m : Int) 1)) 1 = ((m % 2 : Nat) : Int) := by
    rw [m1 m hm, show (1 : Int) = ((1 : Nat) : Int) from rfl, e1, e2]
    have := m1 _ l3
    rw [e3] at this
    exact this
  unfold evenB
  constructor
  · rw [key, m1 m hm]
  · rw [m1 m hm, Int.tmod_eq_emod_of_nonneg (by omega)]
    simp only [decide_eq_true_eq]
    omega
def ioE' (w : Int → Int) (sl ev : Bool) (t : Int) : Int :=
  let x := t + (if sl = true then w t else 0)
  let a := x + 1 + (if (sl || ev) = true then w (x + 1) else 0)
  let b := a + 1 + (if (sl && !ev) = true then w (a + 1) else 0)
  b + 1 + (if (sl && !ev) = true then w (b + 1) else 0) + 1
theorem ioEnd_eq {w : Int → Int} (hw : ∀ s, 0 ≤ w s ∧ w s ≤ 6) (sl ev : Bool) {t : Int} (h1 : 0 ≤ t) (h2 : t ≤ 1099511626776) : ioEnd w sl ev t = ioE' w sl ev t := by
  have bd : ∀ (c : Bool) (s : Int), 0 ≤ (if c = true then w s else 0) ∧ (if c = true then w s else 0) ≤ 6 := by
    intro c s
    have := hw s
    cases c <;> simp <;> omega
  unfold ioEnd ioAt ioE'
  dsimp only
  have b0 := bd sl t
  rw [wtN_in hw (c := sl) h1 (by omega)]
  have c0 : ∃ x, t + (if sl = true then w t else 0) = x ∧ t ≤ x ∧ x ≤ t + 6 := ⟨_, rfl, by omega, by omega⟩
  obtain ⟨x, hx, x1, x2⟩ := c0
  rw [hx, inc_in (t := x) (by omega) (by omega), wtN_in hw (c := (sl || ev)) (t := x + 1) (by omega) (by omega)]
  have b1 := bd (sl || ev) (x + 1)
  have c1 : ∃ a, x + 1 + (if (sl || ev) = true then w (x + 1) else 0) = a ∧ x + 1 ≤ a ∧ a ≤ x + 7 := ⟨_, rfl, by omega, by omega⟩
  obtain ⟨a, ha, a1, a2⟩ := c1
  rw [ha, inc_in (t := a) (by omega) (by omega), wtN_in hw (c := (sl && !ev)) (t := a + 1) (by omega) (by omega)]
  have b2 := bd (sl && !ev) (a + 1)
  have c2 : ∃ b, a + 1 + (if (sl && !ev) = true then w (a + 1) else 0) = b ∧ a + 1 ≤ b ∧ b ≤ a + 7 := ⟨_, rfl, by omega, by omega⟩
  obtain ⟨b, hb, g1, g2⟩ := c2
  rw [hb, inc_in (t := b) (by omega) (by omega), wtN_in hw (c := (sl && !ev)) (t := b + 1) (by omega) (by omega)]
  have b3 := bd (sl && !ev) (b + 1)
  rw [inc_in (by omega) (by omega)]
theorem ports_ends {L C T R F W U k a v n t : Int} (h : reqErr L C T R F W U k a v n t = 0) (ht : t ≤ 549755813888) :
    reqEnd L C T R F W U k a v n false t ≤ reqEnd L C T R F W U k a v n true t ∧ (k = 6 → reqEnd L C T R F W U k a v n false t = reqEnd L C T R F W U k a v n true t) ∧
    (k ≠ 4 → k ≠ 5 → reqEnd L C T R F W U k a v n false t = IntKind.i64.wrap (t + n)) ∧ (k = 4 ∨ k = 5 → evenB a = false → reqEnd L C T R F W U k a v n false t = IntKind.i64.wrap (t + 4)) := by
  obtain ⟨h1, h2, h3, h4⟩ := reqErr_zero h
  have hs := stepE_zero h2
  unfold reqEnd
  rw [if_pos h, if_pos h]
  have hw : ∀ s, 0 ≤ waitN L C T R F W U s ∧ waitN L C T R F W U s ≤ 6 := fun s => waitN_bd L C T R F W U s
  have mono : ∀ s : Int, 0 ≤ s → s ≤ 549755813900 → s + waitN L C T R F W U s ≤ s + waitN L C T R F W U t + waitN L C T R F W U (s + waitN L C T R F W U t) := by
    intro s s0 s1
    have hd := hw t
    obtain ⟨d, hd'⟩ := Int.eq_ofNat_of_zero_le hd.1
    rw [hd'] at hd ⊢
    have := wt_mono h1 s0 d
    rw [waitN_eq h1 s0 (by omega), waitN_eq h1 (by omega) (by omega)]
    exact this
  generalize hW : waitN L C T R F W U = w at hw mono ⊢
  by_cases k6 : k = 6
  · simp only [if_pos k6]
    refine ⟨Int.le_refl _, fun _ => trivial, fun _ _ => trivial, fun q => by omega⟩
  · simp only [if_neg k6]
    by_cases k45 : k = 4 ∨ k = 5
    · simp only [if_pos k45]
      refine ⟨?_, fun q => absurd q k6, fun q1 q2 => by omega, ?_⟩
      · rw [ioEnd_eq hw _ _ h3 h4, ioEnd_eq hw _ _ h3 h4]
        unfold ioE'
        have q0 := hw t
        cases hev : evenB a
        · simp only [Bool.false_eq_true, if_false, if_true, Int.add_zero, Bool.or_true, Bool.or_false, Bool.not_false, Bool.and_true, Bool.false_and, Bool.true_or, Bool.or_self]
          have q1 := hw (t + w t + 1)
          have q2 := hw (t + w t + 1 + w (t + w t + 1) + 1)
          have q3 := hw (t + w t + 1 + w (t + w t + 1) + 1 + w (t + w t + 1 + w (t + w t + 1) + 1) + 1)
          omega
        · simp only [Bool.false_eq_true, if_false, if_true, Int.add_zero, Bool.or_true, Bool.or_false, Bool.not_true, Bool.and_false, Bool.false_and, Bool.true_or, Bool.or_self]
          have m := mono (t + 1) (by omega) (by omega)
          rw [show t + 1 + w t = t + w t + 1 by omega] at m
          omega
      · intro _ hev
        rw [ioEnd_eq hw _ _ h3 h4, hev]
        unfold ioE'
        simp only [Bool.false_eq_true, if_false, if_true, Int.add_zero, Bool.or_true, Bool.or_false, Bool.not_false, Bool.and_true, Bool.false_and, Bool.true_or, Bool.or_self]
        rw [wrap_in (by omega) (by omega)]
        omega
    · simp only [if_neg k45]
      have q0 := hw t
      rw [wtN_in hw h3 (by omega), wtN_in hw h3 (by omega)]
      simp only [Bool.false_eq_true, if_false, if_true, Int.add_zero]
      refine ⟨?_, fun q => absurd q k6, fun _ _ => trivial, fun q => absurd q k45⟩
      rw [wrap_in (by omega) (by omega), wrap_in (by omega) (by omega)]
      omega
theorem reqErr_addr {L C T R F W U k a a' v n t : Int} (h : reqErr L C T R F W U k a v n t = 0) (hk : k = 4 ∨ k = 5) : reqErr L C T R F W U k a' v n t = 0 := by
  have hs : stepE k a' v n = stepE k a v n := by
    unfold stepE stepB
    have : ¬ k = 6 := by omega
    simp [this]
  unfold reqErr at h ⊢
  rw [hs]
  exact h
theorem portsLaw_sc (L C T R F W U k a v n o t : Int) (wa : (Lit.int .u16 a).wf = true) (wo : (Lit.int .u16 o).wf = true) :
    SC Try.prog 11 [.agg [.int .i64 L, .int .i64 C, .int .i64 T, .int .i64 R, .int .i64 F, .int .i64 W, .int .i64 U], .agg [.int .i64 k, .int .u16 a, .int .u8 v, .int .i64 n], .int .u16 o, .int .i64 t] h0 (fun u _ => u = .bool true) := by
  have u16b : ∀ z : Int, (Lit.int .u16 z).wf = true → 0 ≤ z ∧ z < 65536 := by
    intro z hz
    simp only [Lit.wf, Bool.and_eq_true, decide_eq_true_eq] at hz
    have e1 : IntKind.u16.min = 0 := by decide +kernel
    have e2 : IntKind.u16.max = 65535 := by decide +kernel
    omega
  have ha := u16b a wa
  have ho := u16b o wo
  refine sc_of_vc XCo4_ok (by kernel_rfl) (ports_vc L C T R F W U k a v n o t _) ?_
  unfold ports_VC
  obtain ⟨ev1, ev2⟩ := even_same ha ho
  generalize bits .or .u16 (bits .andNot .u16 o 1) (bits .and .u16 a 1) = a' at ev1 ⊢
  by_cases hok : okF L C T R F W U = true
  · have hs := stepE_cases k a v n
    by_cases hst : stepE k a v n = 0
    · by_cases h0 : t < 0
      · have h1 : ¬ t > 549755813888 := by omega
        simp [hok, hst, h0, h1]
      · by_cases h1 : t > 549755813888
        · simp [hok, hst, h0, h1]
        · have he : reqErr L C T R F W U k a v n t = 0 := by unfold reqErr; rw [if_pos ⟨hok, hst, h0, by omega⟩]
          obtain ⟨p1, p2, p3, p4⟩ := ports_ends he (by omega)
          have hlt : ¬ reqEnd L C T R F W U k a v n true t < reqEnd L C T R F W U k a v n false t := by omega
          by_cases k45 : k = 4 ∨ k = 5
          · have he' := reqErr_addr (a' := a') he k45
            have hA : reqEnd L C T R F W U k a' v n false t = reqEnd L C T R F W U k a v n false t := by unfold reqEnd; rw [he, he', ev1]
            have hB : reqEnd L C T R F W U k a' v n true t = reqEnd L C T R F W U k a v n true t := by unfold reqEnd; rw [he, he', ev1]
            have k6 : ¬ k = 6 := by omega
            have h4 := p4 k45
            simp only [he, he', hA, hB, hst]
            clear he he' hA hB p1 p2 p3 p4 hs hst
            generalize reqEnd L C T R F W U k a v n false t = A at *
            generalize reqEnd L C T R F W U k a v n true t = B at *
            by_cases hev : a.tmod 2 = 0
            · rcases k45 with q | q <;> simp [hok, h0, h1, hlt, q, hev]
            · have h5 : evenB a = false := by rw [Bool.eq_false_iff]; intro q; exact hev (ev2.1 q)
              have h6 := h4 h5
              have h7 : ¬ B < IntKind.i64.wrap (t + 4) := by rw [← h6]; exact hlt
              rcases k45 with q | q <;> simp [hok, h0, h1, q, hev, h6] <;> omega
          · have k4 : ¬ k = 4 := fun q => k45 (.inl q)
            have k5 : ¬ k = 5 := fun q => k45 (.inr q)
            have q3 := p3 k4 k5
            by_cases k6 : k = 6
            · have q2 := p2 k6
              simp only [he, hst]
              clear he p1 p2 p3 p4 hs hst q3
              generalize reqEnd L C T R F W U k a v n false t = A at *
              generalize reqEnd L C T R F W U k a v n true t = B at *
              subst q2
              simp [hok, h0, h1, k6]
            · simp only [he, hst]
              clear he p1 p2 p3 p4 hs hst
              generalize reqEnd L C T R F W U k a v n false t = A at *
              generalize reqEnd L C T R F W U k a v n true t = B at *
              have h7 : ¬ B < IntKind.i64.wrap (t + n) := by rw [← q3]; exact hlt
              simp [hok, h0, h1, k4, k5, k6, q3] <;> omega
    · simp [hok, hst]
  · simp [hok]
end Go.Proofs.Ytnfelncgeihihaa.V
