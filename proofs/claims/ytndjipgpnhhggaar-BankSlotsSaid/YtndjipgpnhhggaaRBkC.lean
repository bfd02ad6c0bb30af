/- bank: slots, plainly; the loop of BankSlots. -/
import Derived.Test.YtndjipgpnhhggaaRBkW
import Derived.Test.YtndjipgpnhhggaaRV25
namespace Go.Proofs.YtndjipgpnhhggaaR.V
open Go Go.Proofs
set_option maxRecDepth 100000
set_option maxHeartbeats 4000000
set_option linter.unusedSimpArgs false
set_option linter.unusedVariables false
theorem wrap_in {n : Int} (h1 : -9223372036854775808 ≤ n) (h2 : n ≤ 9223372036854775807) : IntKind.i64.wrap n = n := by
  rw [IntKind.wrap_i64]; omega
theorem wf8 {z : Int} (h : (Lit.int .u8 z).wf = true) : 0 ≤ z ∧ z < 256 := by
  have e0 : IntKind.u8.min = 0 := by decide +kernel
  have e1 : IntKind.u8.max = 255 := by decide +kernel
  simp [Lit.wf, e0, e1] at h
  omega
theorem fin8 {p : Int → Bool} (h : (List.range 256).all (fun n => p (n : Int)) = true) {z : Int} (h0 : 0 ≤ z) (h1 : z < 256) : p z = true := by
  rw [List.all_eq_true] at h
  have := h z.toNat (List.mem_range.2 (by omega))
  rwa [Int.toNat_of_nonneg h0] at this
theorem od_par {b : Int} (h0 : 0 ≤ b) (h1 : b < 256) : (b.tmod 2 = 0 ∧ od b = false) ∨ (b.tmod 2 = 1 ∧ od b = true) := by
  have := fin8 (p := fun b => decide ((b.tmod 2 = 0 ∧ od b = false) ∨ (b.tmod 2 = 1 ∧ od b = true))) (by decide +kernel) h0 h1
  simpa using this
theorem and7 {a : Int} (h0 : 0 ≤ a) (h1 : a < 256) : bits .and .u8 a 7 = a.tmod 8 ∧ 0 ≤ bits .and .u8 a 7 ∧ bits .and .u8 a 7 < 8 := by
  have := fin8 (p := fun a => decide (bits .and .u8 a 7 = a.tmod 8 ∧ 0 ≤ bits .and .u8 a 7 ∧ bits .and .u8 a 7 < 8)) (by decide +kernel) h0 h1
  simpa using this
theorem s_facts {a b : Int} (ha0 : 0 ≤ a) (ha1 : a < 256) (hb0 : 0 ≤ b) (hb1 : b < 256) :
    (0 ≤ s0 a b ∧ s0 a b ≤ 11) ∧ (0 ≤ s1 b ∧ s1 b ≤ 7) ∧ (0 ≤ s2 b ∧ s2 b ≤ 7) ∧ (0 ≤ s3 a b ∧ s3 a b ≤ 7) ∧
    (b.tmod 2 = 0 → 8 ≤ s0 a b ∧ s1 b = 5 ∧ s2 b = 2 ∧ s3 a b = IntKind.i64.wrap (a.tmod 8)) ∧ (b.tmod 2 = 1 → s0 a b ≤ 7) := by
  obtain ⟨q1, q2, q3⟩ := and7 ha0 ha1
  have w : IntKind.i64.wrap (bits .and .u8 a 7) = bits .and .u8 a 7 := wrap_in (by omega) (by omega)
  unfold s0 s1 s2 s3
  rw [← q1, w]
  rcases od_par hb0 hb1 with ⟨h1, h2⟩ | ⟨h1, h2⟩
  · simp only [h1, h2]
    refine ⟨?_, ?_, ?_, ?_, ?_, ?_⟩ <;> simp <;> (try split) <;> (try split) <;> omega
  · simp only [h1, h2]
    refine ⟨?_, ?_, ?_, ?_, ?_, ?_⟩ <;> simp <;> (try split) <;> (try split) <;> omega
def bkT (a b i : Int) (n c : Nat) (ns : List Int) : AF × AH := (⟨127, [(1, .slice 0 0 n (some c)), (2, .ptr 1 0), (5, .int .i64 i)]⟩, ⟨2, [(1, .cells 23 [.int .u8 a, .int .u8 b]), (0, .ro (enc8 ns))]⟩)
def bkE (ns : List Int) : AF × AH := (⟨127, []⟩, ⟨1, [(0, .ro (enc8 ns))]⟩)
def b8 (z : Int) : Bool := decide (0 ≤ z) && decide (z < 256)
def bkPre (a b : Int) (n : Nat) (ns : List Int) : Bool := b8 a && b8 b && decide (ns.length = n) && decide (n ≤ 60) && ns.all b8
theorem b8_iff {z : Int} : b8 z = true ↔ 0 ≤ z ∧ z < 256 := by unfold b8; simp
def LBk (a b : Int) (n c : Nat) (ns : List Int) : LTr := fun n0 fr σ s K => need (n0 = 1) ∧ need (Fits 1 [(0, 0), (1, 1)] fr σ (bkT a b 0 n c ns).1 (bkT a b 0 n c ns).2) ∧ need (bkPre a b n ns = true) ∧ K (.exit 0) (bkE ns).1 (bkE ns).2 s
noncomputable def XBs (a b : Int) (n c : Nat) (ns : List Int) : Cx := ⟨Try.prog, purT purBk2, purO purBk2, purBk2.map (·.1), 20, lookL [(0, LBk a b n c ns)]⟩
end Go.Proofs.YtndjipgpnhhggaaR.V
