/- render: colours: the law. -/
import Derived.Test.YtafedoablnfebaaRdT
namespace Go.Proofs.Ytafedoablnfebaa.V
open Go Go.Proofs
set_option maxRecDepth 100000
set_option maxHeartbeats 4000000
set_option linter.unusedSimpArgs false
set_option linter.unusedVariables false
def colB (a : Int) (b : Bool) : Int :=
  let c := if b = true then bits .and .u8 a 7 else bits .and .u8 (a / 8) 7
  if bits .and .u8 a 64 = 0 then c else IntKind.u8.wrap (c + 8)
theorem colV_eq (a : Int) (o : Bool) (f : Int) : colV a o f = colB a (if flips a f = true then !o else o) := rfl
def colOk (a : Int) (b : Bool) : Bool := decide (colB a b ≤ 15) && (decide (colB a b ≥ 8) == !decide (bits .and .u8 a 64 = 0)) && (decide (colB a b = colB a (!b)) == decide (Int.tmod a 8 = Int.tmod (IntKind.u8.wrap (Int.tdiv a 8)) 8))
theorem colOk_all : ∀ a : Fin 256, (colOk (a.val : Int) true && colOk (a.val : Int) false) = true := by decide +kernel
theorem colOk_of {a : Int} (h0 : 0 ≤ a) (h1 : a ≤ 255) (b : Bool) : colOk a b = true := by
  obtain ⟨m, rfl⟩ := Int.eq_ofNat_of_zero_le h0
  have := colOk_all ⟨m, by omega⟩
  simp only [Bool.and_eq_true] at this
  cases b
  · exact this.2
  · exact this.1
theorem wrap_in2 {n : Int} (h1 : -9223372036854775808 ≤ n) (h2 : n ≤ 9223372036854775807) : IntKind.i64.wrap n = n := wrap_in h1 h2
/-- Does it flash at this frame? -/
theorem flips_at {a F : Int} (h0 : 0 ≤ F) (h1 : F ≤ 1099511627900) : flips a F = ((!decide (bits .and .u8 a 128 = 0)) && decide (F / 16 % 2 = 1)) := by
  unfold flips
  have e : (if F > 0 then F else 0) = F := by split <;> omega
  rw [e, Int.tdiv_eq_ediv_of_nonneg h0, wrap_in2 (by omega) (by omega), Int.tmod_eq_emod_of_nonneg (by omega)]
theorem rcl_ok {a : Int} (o : Bool) (f g : Int) (h0 : 0 ≤ a) (h1 : a ≤ 255) : rcl_VC a o f g (fun u => u = .bool true) := by
  have F0 : 0 ≤ Int.tmod (if f > 0 then f else 0) 1099511627776 := Int.tmod_nonneg _ (by split <;> omega)
  have F1 : Int.tmod (if f > 0 then f else 0) 1099511627776 < 1099511627776 := Int.tmod_lt_of_pos _ (by omega)
  have G0 : 0 ≤ Int.tmod (if g > 0 then g else 0) 1099511627776 := Int.tmod_nonneg _ (by split <;> omega)
  have G1 : Int.tmod (if g > 0 then g else 0) 1099511627776 < 1099511627776 := Int.tmod_lt_of_pos _ (by omega)
  unfold rcl_VC
  generalize Int.tmod (if f > 0 then f else 0) 1099511627776 = F at *
  generalize Int.tmod (if g > 0 then g else 0) 1099511627776 = G at *
  have w16 : IntKind.i64.wrap (F + 16) = F + 16 := wrap_in2 (by omega) (by omega)
  have w32 : IntKind.i64.wrap (F + 32) = F + 32 := wrap_in2 (by omega) (by omega)
  rw [w16, w32]
  have q := colOk_of h0 h1 (if flips a F = true then !o else o)
  unfold colOk at q
  simp only [Bool.and_eq_true, decide_eq_true_eq] at q
  obtain ⟨⟨q1, q2⟩, q3⟩ := q
  rw [← colV_eq] at q1 q2 q3
  have ne : colB a (!(if flips a F = true then !o else o)) = colV a (!o) F := by
    rw [colV_eq]
    congr 1
    cases flips a F <;> cases o <;> rfl
  rw [ne] at q3
  have c1 : decide (colV a o F > 15) = false := decide_eq_false (by omega)
  have c4 : decide (bits .and .u8 a 128 = 0) = true → colV a o G = colV a o F := by
    intro h
    rw [colV_eq, colV_eq, flips_at G0 (by omega), flips_at F0 (by omega), h]
    rfl
  have c5 : decide (bits .and .u8 a 128 = 0) = false → colV a o (F + 16) = colV a (!o) F ∧ colV a o (F + 32) = colV a o F := by
    intro h
    have p1 : decide ((F + 16) / 16 % 2 = 1) = !decide (F / 16 % 2 = 1) := by
      by_cases hp : F / 16 % 2 = 1
      · rw [decide_eq_true hp, decide_eq_false (by omega)]; rfl
      · rw [decide_eq_false hp, decide_eq_true (by omega)]; rfl
    have p2 : decide ((F + 32) / 16 % 2 = 1) = decide (F / 16 % 2 = 1) := by
      by_cases hp : F / 16 % 2 = 1
      · rw [decide_eq_true hp, decide_eq_true (by omega)]
      · rw [decide_eq_false hp, decide_eq_false (by omega)]
    refine ⟨?_, ?_⟩
    · rw [colV_eq, colV_eq, flips_at (by omega) (by omega), flips_at F0 (by omega), h, p1]
      cases decide (F / 16 % 2 = 1) <;> cases o <;> rfl
    · rw [colV_eq, colV_eq, flips_at (by omega) (by omega), flips_at F0 (by omega), p2]
  simp only [c1, q2, q3, Bool.not_true, Bool.not_false, Bool.true_eq_false, Bool.false_eq_true, false_implies, true_implies, true_and, and_true]
  refine ⟨fun h => ?_, fun h => ?_⟩
  · rw [c4 h]; simp
  · obtain ⟨e1, e2⟩ := c5 h
    rw [e1, e2]
    simp
theorem colours_sc (a : Int) (o : Bool) (f g : Int) (hw : (Lit.int .u8 a).wf = true) : SC Try.prog 3 [.int .u8 a, .bool o, .int .i64 f, .int .i64 g] V.h0 (fun u _ => u = .bool true) := by
  have ha : 0 ≤ a ∧ a ≤ 255 := by
    simp only [Lit.wf, Bool.and_eq_true, decide_eq_true_eq] at hw
    simpa [IntKind.min, IntKind.max, IntKind.bits, IntKind.signed] using hw
  exact sc_of_vc XLw_ok (by kernel_rfl) (rcl_vc a o f g (fun u => u = .bool true)) (rcl_ok o f g ha.1 ha.2)
end Go.Proofs.Ytafedoablnfebaa.V
