/- tstate: times, spots, bytes (part 3): what numbers as bytes are; one more number; the next number. -/
import Derived.Test.YtnfelncgeihihaaTbV
import Derived.Test.YtnfelncgeihihaaTbP
import Derived.Laws.BitsAllLaws
namespace Go.Proofs.Ytnfelncgeihihaa.V
open Go Go.Proofs
set_option maxRecDepth 100000
set_option maxHeartbeats 4000000
set_option linter.unusedSimpArgs false
set_option linter.unusedVariables false
/-- A number's bytes (of one up to 1000). -/
def numB (x : Int) : List Int := if x ≤ 247 then [x] else if x ≤ 255 then [248, x] else [249, x % 256, x / 256]
theorem u8w {x : Int} : IntKind.u8.wrap x = x % 256 := by simp [IntKind.wrap, IntKind.bits, IntKind.signed]
theorem u64w {x : Int} (h0 : 0 ≤ x) (h1 : x ≤ 1000000) : IntKind.u64.wrap x = x := by rw [IntKind.wrap_u64]; omega
def nuK (x : Int) : Nat := if x ≤ 247 then 1 else if x ≤ 255 then 3 else 5
theorem numN_sc {x : Int} (h0 : 0 ≤ x) (h1 : x ≤ 1000) : SC Try.prog 75 [.nilslice, .int .u64 x] ⟨0, []⟩ (fun v τ => v = .slice (nuK x) 0 (numB x).length none ∧ τ.get (nuK x) = .opn 5 1 (encI .u8 (numB x))) := by
  refine sc_of_vcT XNu_ok (by kernel_rfl) (fun p _ L hL => by cases hL) (nuN_vc x _) ?_
  unfold nuN_VC nuK numB
  by_cases a : x ≤ 247
  · rw [if_pos a, if_pos a]
    simp only [a, decide_true, forall_const, reduceCtorEq, false_implies, and_true, Bool.true_eq_false]
    exact ⟨rfl, by simp [AH.get, lookH, encI, u8w]; omega⟩
  · have b : x > 0 := by omega
    by_cases d : x ≤ 255
    · have e : ¬ x / 256 > 0 := by omega
      rw [if_neg a, if_neg a, if_pos d, if_pos d]
      simp [a, b, e, AH.get, lookH, encI, u8w]; omega
    · have e : x / 256 > 0 := by omega
      have e2 : ¬ x / 256 / 256 > 0 := by omega
      rw [if_neg a, if_neg a, if_neg d, if_neg d]
      simp [a, b, e, e2, AH.get, lookH, encI, u8w]; omega
def nuJ (x : Int) : Nat := if x ≤ 247 then 4 else if x ≤ 255 then 6 else 8
theorem numS_sc {x : Int} {n : Nat} {cs : List AV} (hn : 0 < n) (hc : n = cs.length) (hm : n ≤ 100) (h0 : 0 ≤ x) (h1 : x ≤ 1000) :
    SC Try.prog 75 [.slice 0 0 n none, .int .u64 x] ⟨1, [(0, .ro cs)]⟩ (fun v τ => v = .slice (nuJ x) 0 (n + (numB x).length) none ∧ τ.get (nuJ x) = .opn 5 1 (cs ++ encI .u8 (numB x))) := by
  refine sc_of_vcT XNu_ok (by kernel_rfl) (fun p _ L hL => by cases hL) (nuS_vc x n cs _) ?_
  have ht : List.take (n * 1) (List.drop 0 cs) = cs := by rw [Nat.mul_one, hc]; simp
  unfold nuS_VC nuJ numB
  rw [ht]
  by_cases a : x ≤ 247
  · rw [if_pos a, if_pos a]
    simp [a, hn, ← hc, AH.get, lookH, encI, u8w]
    omega
  · have b : x > 0 := by omega
    by_cases d : x ≤ 255
    · have e : ¬ x / 256 > 0 := by omega
      rw [if_neg a, if_neg a, if_pos d, if_pos d]
      simp [a, b, e, hn, ← hc, AH.get, lookH, encI, u8w]
      omega
    · have e : x / 256 > 0 := by omega
      have e2 : ¬ x / 256 / 256 > 0 := by omega
      rw [if_neg a, if_neg a, if_neg d, if_neg d]
      simp [a, b, e, e2, hn, ← hc, AH.get, lookH, encI, u8w]
      omega
end Go.Proofs.Ytnfelncgeihihaa.V
