/- Places on the screen and their offsets: each of the 6144 and the 768 looked at. -/
import Derived.Test.YtnfelncgeihihaaRa1
namespace Go.Proofs.Ytnfelncgeihihaa.V
open Go Go.Proofs
set_option maxRecDepth 100000
set_option linter.unusedSimpArgs false
set_option linter.unusedVariables false

def chkPix (n : Nat) : Bool := let x : Int := ((n % 32 : Nat) : Int); let y : Int := ((n / 32 : Nat) : Int)
  decide (0 ≤ pixN x y) && decide (pixN x y < 6144) && decide (bits .and .i64 (pixN x y) 31 = x) && decide (whY (pixN x y) = y) && decide (bits .and .i64 (y / 8 * 32 + x) 31 = x)
def chkOff (n : Nat) : Bool := onB (bits .and .i64 (n : Int) 31) (whY n) && decide (pixN (bits .and .i64 (n : Int) 31) (whY n) = n)
def chkAt (n : Nat) : Bool := onB (bits .and .i64 (n : Int) 31) ((n : Int) / 32 * 8) && decide (((n : Int) / 32 * 8) / 8 * 32 + bits .and .i64 (n : Int) 31 = n)
theorem all_pix : (List.range 6144).all chkPix = true := by kernel_rfl
theorem all_off : (List.range 6144).all chkOff = true := by kernel_rfl
theorem all_at : (List.range 768).all chkAt = true := by kernel_rfl
theorem from_all {f : Nat → Bool} {n : Nat} (h : (List.range n).all f = true) {i : Nat} (hi : i < n) : f i = true := by
  rw [List.all_eq_true] at h
  exact h i (List.mem_range.2 hi)
theorem pix_fact {x y : Int} (h : onB x y = true) : 0 ≤ pixN x y ∧ pixN x y < 6144 ∧ bits .and .i64 (pixN x y) 31 = x ∧ whY (pixN x y) = y ∧ bits .and .i64 (y / 8 * 32 + x) 31 = x := by
  obtain ⟨h1, h2, h3, h4⟩ := onB_true h
  have := from_all all_pix (i := (y * 32 + x).toNat) (by omega)
  have e1 : (((y * 32 + x).toNat % 32 : Nat) : Int) = x := by omega
  have e2 : (((y * 32 + x).toNat / 32 : Nat) : Int) = y := by omega
  simpa [chkPix, e1, e2, and_assoc] using this
theorem off_fact {t : Int} (h1 : 0 ≤ t) (h2 : t < 6144) : onB (bits .and .i64 t 31) (whY t) = true ∧ pixN (bits .and .i64 t 31) (whY t) = t := by
  have := from_all all_off (i := t.toNat) (by omega)
  have e1 : ((t.toNat : Nat) : Int) = t := by omega
  simpa [chkOff, e1] using this
theorem at_fact {t : Int} (h1 : 0 ≤ t) (h2 : t < 768) : onB (bits .and .i64 t 31) (t / 32 * 8) = true ∧ (t / 32 * 8) / 8 * 32 + bits .and .i64 t 31 = t := by
  have := from_all all_at (i := t.toNat) (by omega)
  have e1 : ((t.toNat : Nat) : Int) = t := by omega
  simpa [chkAt, e1] using this
theorem where_pix {x y : Int} (h : onB x y = true) : whereA (pixN x y) = .tup [.int .i64 x, .int .i64 y, .bool false, .bool true] := by
  obtain ⟨h1, h2, h3, h4, _⟩ := pix_fact h
  unfold whereA
  rw [if_neg (by omega), if_neg (by omega), h3, h4]
theorem where_attr {x y : Int} (h : onB x y = true) : whereA (6144 + y / 8 * 32 + x) = .tup [.int .i64 x, .int .i64 (y / 8 * 8), .bool true, .bool true] := by
  obtain ⟨_, _, _, _, h5⟩ := pix_fact h
  obtain ⟨h1, h2, h3, h4⟩ := onB_true h
  unfold whereA
  have e1 : 6144 + y / 8 * 32 + x - 6144 = y / 8 * 32 + x := by omega
  have e2 : (y / 8 * 32 + x) / 32 * 8 = y / 8 * 8 := by omega
  rw [if_neg (by omega), if_pos (by omega), e1, e2, h5]

end Go.Proofs.Ytnfelncgeihihaa.V
