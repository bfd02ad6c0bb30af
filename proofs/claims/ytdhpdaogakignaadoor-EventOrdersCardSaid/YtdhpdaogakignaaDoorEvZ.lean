/- event: each kind is one chip's and has a name of its own; the order is one order for all. -/
import Derived.Test.YtdhpdaogakignaaDoorEvY
namespace Go.Proofs.YtdhpdaogakignaaDoor.V
open Go Go.Proofs
set_option maxRecDepth 100000
set_option maxHeartbeats 8000000
set_option linter.unusedSimpArgs false
set_option linter.unusedVariables false
theorem chip_out {k : Int} (h : k < 1 ∨ 12 < k) : chipN k = 0 ∧ nmB k = ⟨#[]⟩ := by
  constructor
  · unfold chipN; rw [if_pos h]
  · unfold nmB
    repeat rw [if_neg (by omega)]
theorem chip_in {k : Int} (h : ¬ (k < 1 ∨ 12 < k)) : chipN k ≠ 0 ∧ 0 ≤ chipN k ∧ chipN k ≤ 4 := by
  unfold chipN
  rw [if_neg h]
  split
  · omega
  · split
    · omega
    · split <;> omega
theorem chip_mono {a b : Int} (ha : ¬ (a < 1 ∨ 12 < a)) (hb : ¬ (b < 1 ∨ 12 < b)) (h : a < b) : chipN a ≤ chipN b := by
  unfold chipN
  rw [if_neg ha, if_neg hb]
  repeat' split
  all_goals omega
theorem nm_none {k : Int} (h : ¬ (k < 1 ∨ 12 < k)) : decide (ByteArray.toList.loop (nmB k) 0 [] = []) = false := by
  have key : ∀ i : Fin 12, decide (ByteArray.toList.loop (nmB ((i.val : Int) + 1)) 0 [] = []) = false := by decide +kernel
  have := key ⟨(k - 1).toNat, by omega⟩
  rwa [show (((k - 1).toNat : Nat) : Int) + 1 = k by omega] at this
theorem nm_same {a b : Int} (ha : ¬ (a < 1 ∨ 12 < a)) (hb : ¬ (b < 1 ∨ 12 < b)) : decide (ByteArray.toList.loop (nmB a) 0 [] = ByteArray.toList.loop (nmB b) 0 []) = decide (a = b) := by
  have key : ∀ i j : Fin 12, decide (ByteArray.toList.loop (nmB ((i.val : Int) + 1)) 0 [] = ByteArray.toList.loop (nmB ((j.val : Int) + 1)) 0 []) = decide ((i.val : Int) + 1 = (j.val : Int) + 1) := by decide +kernel
  have := key ⟨(a - 1).toNat, by omega⟩ ⟨(b - 1).toNat, by omega⟩
  rwa [show (((a - 1).toNat : Nat) : Int) + 1 = a by omega, show (((b - 1).toNat : Nat) : Int) + 1 = b by omega] at this
theorem nm_empty : decide (ByteArray.toList.loop ⟨#[]⟩ 0 [] = []) = true := by decide +kernel
theorem knd_sc (a b : Int) : SC Tryd.prog 5 [.int .i64 a, .int .i64 b] h0 (fun x _ => x = .bool true) := by
  refine sc_of_vc XE2_ok (by kernel_rfl) (knd_vc a b (fun x => x = .bool true)) ?_
  unfold knd_VC
  by_cases ha : a < 1 ∨ 12 < a
  · obtain ⟨h1, h2⟩ := chip_out ha
    rw [h1, h2, nm_empty]
    simp
  · obtain ⟨h1, h2, h3⟩ := chip_in ha
    have e1 := nm_none ha
    have d1 : decide (chipN a = 0) = false := by simp [h1]
    have d2 : decide (chipN a < 0) = false := by simp; omega
    have d3 : decide (chipN a > 4) = false := by simp; omega
    by_cases hb : b < 1 ∨ 12 < b
    · obtain ⟨h4, h5⟩ := chip_out hb
      rw [h4, e1, d1, d2, d3]
      simp
    · obtain ⟨h4, h5, h6⟩ := chip_in hb
      have d4 : decide (chipN b = 0) = false := by simp [h4]
      have e2 := nm_same ha hb
      rw [e1, d1, d2, d3, d4, e2]
      have e3 : ¬ a ≥ b → chipN a ≤ chipN b := fun h => chip_mono ha hb (by omega)
      by_cases h : a ≥ b
      · simp [h]
      · have := e3 h
        simp [h, this]
theorem eor_sc (a0 a1 a2 a3 a4 a5 b0 b1 b2 b3 b4 b5 c0 c1 c2 c3 c4 c5 : Int) : SC Tryd.prog 4 [.agg [.int .i64 a0, .int .i64 a1, .int .i64 a2, .int .i64 a3, .int .i64 a4, .int .i64 a5], .agg [.int .i64 b0, .int .i64 b1, .int .i64 b2, .int .i64 b3, .int .i64 b4, .int .i64 b5], .agg [.int .i64 c0, .int .i64 c1, .int .i64 c2, .int .i64 c3, .int .i64 c4, .int .i64 c5]] h0 (fun x _ => x = .bool true) := by
  refine sc_of_vc XE2_ok (by kernel_rfl) (eor_vc a0 a1 a2 a3 a4 a5 b0 b1 b2 b3 b4 b5 c0 c1 c2 c3 c4 c5 (fun x => x = .bool true)) ?_
  unfold eor_VC
  have hn := lex_neg [a0, a1, a2, a3, a4, a5] [b0, b1, b2, b3, b4, b5]
  have hz : (a0 == b0 && (a1 == b1 && (a2 == b2 && (a3 == b3 && (a4 == b4 && (a5 == b5 && true)))))) = decide (lexN [a0, a1, a2, a3, a4, a5] [b0, b1, b2, b3, b4, b5] = 0) := by
    have := lex_zero [a0, a1, a2, a3, a4, a5] [b0, b1, b2, b3, b4, b5] rfl
    rw [Bool.eq_iff_iff]
    simp [this]
  have ht := lex_trans [a0, a1, a2, a3, a4, a5] [b0, b1, b2, b3, b4, b5] [c0, c1, c2, c3, c4, c5] rfl rfl
  have i1 := lex_in [a0, a1, a2, a3, a4, a5] [b0, b1, b2, b3, b4, b5]
  have i2 := lex_in [b0, b1, b2, b3, b4, b5] [c0, c1, c2, c3, c4, c5]
  have i3 := lex_in [a0, a1, a2, a3, a4, a5] [c0, c1, c2, c3, c4, c5]
  have d0 := lex_cons a0 b0 [a1, a2, a3, a4, a5] [b1, b2, b3, b4, b5]
  have d1 := lex_cons a1 b1 [a2, a3, a4, a5] [b2, b3, b4, b5]
  rw [hn, hz]
  clear hn hz
  generalize lexN [a2, a3, a4, a5] [b2, b3, b4, b5] = w2 at d1
  generalize lexN [a1, a2, a3, a4, a5] [b1, b2, b3, b4, b5] = w1 at d0 d1
  generalize lexN [a0, a1, a2, a3, a4, a5] [b0, b1, b2, b3, b4, b5] = x at *
  generalize lexN [b0, b1, b2, b3, b4, b5] [c0, c1, c2, c3, c4, c5] = y at *
  generalize lexN [a0, a1, a2, a3, a4, a5] [c0, c1, c2, c3, c4, c5] = z at *
  have hw : IntKind.wrap IntKind.i64 (0 - x) = -x := by rw [IntKind.wrap_i64]; omega
  rw [hw]
  have x3 : x = -1 ∨ x = 0 ∨ x = 1 := by omega
  have y3 : y = -1 ∨ y = 0 ∨ y = 1 := by omega
  have z3 : z = -1 ∨ z = 0 ∨ z = 1 := by omega
  rcases x3 with rfl | rfl | rfl <;> rcases y3 with rfl | rfl | rfl <;> rcases z3 with rfl | rfl | rfl <;> first
    | (exfalso; omega)
    | (by_cases q0 : a0 = b0
       · by_cases q1 : a1 = b1
         · simp [q0, q1]
         · have q2 : a1 < b1 ∨ ¬ a1 < b1 := Classical.em _
           rcases q2 with q2 | q2
           · simp [q0, q1, q2] <;> omega
           · simp [q0, q1, q2] <;> omega
       · by_cases q2 : a0 < b0
         · simp [q0, q2] <;> omega
         · simp [q0, q2] <;> omega)
end Go.Proofs.YtdhpdaogakignaaDoor.V
