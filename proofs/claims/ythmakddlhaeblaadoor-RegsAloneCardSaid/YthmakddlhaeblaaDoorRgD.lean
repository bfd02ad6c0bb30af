/- regs: the laws over any registers (part 2): pairs, halves, remainders; Swap, Refresh. -/
import Derived.Test.YthmakddlhaeblaaDoorRgV
import Derived.Laws.BitsAllLaws
namespace Go.Proofs.YthmakddlhaeblaaDoor.V
open Go Go.Proofs
set_option maxRecDepth 100000
set_option linter.unusedSimpArgs false
set_option linter.unusedVariables false
def hiN (x : Int) : Int := IntKind.wrap IntKind.u8 (x / (256 : Int))
def loN (x : Int) : Int := IntKind.wrap IntKind.u8 x
def prN (a b : Int) : Int := bits BinOp.or IntKind.u16 (IntKind.wrap IntKind.u16 (IntKind.wrap IntKind.u16 a * (256 : Int))) (IntKind.wrap IntKind.u16 b)
def mdN (n m : Int) : Int := Int.tmod (IntKind.wrap IntKind.i64 (Int.tmod n m + m)) m
def rfN (r : Int) : Int := bits BinOp.or IntKind.u8 (bits BinOp.and IntKind.u8 r (128 : Int)) (bits BinOp.and IntKind.u8 (IntKind.wrap IntKind.u8 (r + (1 : Int))) (127 : Int))
/-- Registers. -/
def rgL (a b c d e f g h i r ix iy sp pc wz af bc de hl im : Int) (p q u v : Bool) : List AV := [.int .u8 a, .int .u8 b, .int .u8 c, .int .u8 d, .int .u8 e, .int .u8 f, .int .u8 g, .int .u8 h, .int .u8 i, .int .u8 r, .int .u16 ix, .int .u16 iy, .int .u16 sp, .int .u16 pc, .int .u16 wz, .int .u16 af, .int .u16 bc, .int .u16 de, .int .u16 hl, .bool p, .bool q, .int .i64 im, .bool u, .bool v]
def splF : List AV → Option AV
  | [.int .u16 x] => some (.tup [.int .u8 (hiN x), .int .u8 (loN x)])
  | _ => none
def prF : List AV → Option AV
  | [.int .u8 a, .int .u8 b] => some (.int .u16 (prN a b))
  | _ => none
def mdF : List AV → Option AV
  | [.int .i64 n, .int .i64 3] => some (.int .i64 (mdN n 3))
  | [.int .i64 n, .int .i64 4] => some (.int .i64 (mdN n 4))
  | [.int .i64 n, .int .i64 8] => some (.int .i64 (mdN n 8))
  | _ => none
def rfF : List AV → Option AV
  | [.agg [.int .u8 a, .int .u8 b, .int .u8 c, .int .u8 d, .int .u8 e, .int .u8 f, .int .u8 g, .int .u8 h, .int .u8 i, .int .u8 r, .int .u16 ix, .int .u16 iy, .int .u16 sp, .int .u16 pc, .int .u16 wz, .int .u16 af, .int .u16 bc, .int .u16 de, .int .u16 hl, .bool p, .bool q, .int .i64 im, .bool u, .bool v]] => some (.agg [.int .u8 a, .int .u8 b, .int .u8 c, .int .u8 d, .int .u8 e, .int .u8 f, .int .u8 g, .int .u8 h, .int .u8 i, .int .u8 (rfN r), .int .u16 ix, .int .u16 iy, .int .u16 sp, .int .u16 pc, .int .u16 wz, .int .u16 af, .int .u16 bc, .int .u16 de, .int .u16 hl, .bool p, .bool q, .int .i64 im, .bool u, .bool v])
  | _ => none
theorem spl_tr : TrOk Tryd.prog 18 (pureT splF) := by
  refine pureT_ok ?_
  intro xs v h
  unfold splF at h
  split at h
  · cases h
    exact ⟨rfl, rfl, sc_of_vc XR0_ok (by kernel_rfl) (spl_vc _ _) rfl⟩
  · cases h
theorem pr_tr : TrOk Tryd.prog 16 (pureT prF) := by
  refine pureT_ok ?_
  intro xs v h
  unfold prF at h
  split at h
  · cases h
    exact ⟨rfl, rfl, sc_of_vc XR0_ok (by kernel_rfl) (prr_vc _ _ _) rfl⟩
  · cases h
theorem md_tr : TrOk Tryd.prog 17 (pureT mdF) := by
  refine pureT_ok ?_
  intro xs v h
  unfold mdF at h
  split at h
  · cases h
    exact ⟨rfl, rfl, sc_of_vc XR0_ok (by kernel_rfl) (md3_vc _ _) rfl⟩
  · cases h
    exact ⟨rfl, rfl, sc_of_vc XR0_ok (by kernel_rfl) (md4_vc _ _) rfl⟩
  · cases h
    exact ⟨rfl, rfl, sc_of_vc XR0_ok (by kernel_rfl) (md8_vc _ _) rfl⟩
  · cases h
theorem rf_tr : TrOk Tryd.prog 7 (pureT rfF) := by
  refine pureT_ok ?_
  intro xs v h
  unfold rfF at h
  split at h
  · cases h
    exact ⟨rfl, rfl, sc_of_vc XR0_ok (by kernel_rfl) (rf_vc _ _ _ _ _ _ _ _ _ _ _ _ _ _ _ _ _ _ _ _ _ _ _ _ _) rfl⟩
  · cases h
def purR1 : Pur := [(18, splF), (16, prF), (17, mdF), (7, rfF)]
theorem purR1_ok : PurOk Tryd.prog purR1 := PurOk.cons spl_tr <| PurOk.cons pr_tr <| PurOk.cons md_tr <| PurOk.cons rf_tr PurOk.nil
noncomputable def XR1 : Cx := cxP Tryd.prog purR1 []
theorem XR1_ok : CxOk (cxP Tryd.prog purR1 []) := cxP_ok mixedrg purR1_ok rfl
theorem prN_val {a b : Int} (h1 : 0 ≤ a) (h2 : a < 256) (h3 : 0 ≤ b) (h4 : b < 256) : prN a b = a * 256 + b := by
  unfold prN
  have w1 : IntKind.u16.wrap a = a := by rw [IntKind.wrap_u16]; omega
  have w2 : IntKind.u16.wrap (a * 256) = a * 256 := by rw [IntKind.wrap_u16]; omega
  have w3 : IntKind.u16.wrap b = b := by rw [IntKind.wrap_u16]; omega
  rw [w1, w2, w3, u16_or _ _ (by omega) (by omega) h3 (by omega)]
  have e := Nat.two_pow_add_eq_or_of_lt (i := 8) (b := b.toNat) (by omega) a.toNat
  have e1 : (a * 256).toNat = 2 ^ 8 * a.toNat := by omega
  rw [e1, ← e]
  omega
theorem hiN_val (x : Int) : hiN x = x / 256 % 256 := by unfold hiN; rw [IntKind.wrap_u8]
theorem loN_val (x : Int) : loN x = x % 256 := by unfold loN; rw [IntKind.wrap_u8]
theorem hi_pr {a b : Int} (h1 : 0 ≤ a) (h2 : a < 256) (h3 : 0 ≤ b) (h4 : b < 256) : hiN (prN a b) = a := by
  rw [prN_val h1 h2 h3 h4, hiN_val]; omega
theorem lo_pr {a b : Int} (h1 : 0 ≤ a) (h2 : a < 256) (h3 : 0 ≤ b) (h4 : b < 256) : loN (prN a b) = b := by
  rw [prN_val h1 h2 h3 h4, loN_val]; omega
theorem pr_hi_lo {x : Int} (h1 : 0 ≤ x) (h2 : x < 65536) : prN (hiN x) (loN x) = x := by
  rw [hiN_val, loN_val, prN_val (by omega) (by omega) (by omega) (by omega)]; omega
theorem rf_val {x : Int} (h1 : 0 ≤ x) (h2 : x < 256) : rfN x = x / 128 * 128 + (x % 128 + 1) % 128 := by
  have k : ∀ i : Fin 256, rfN (i.val : Int) = (i.val : Int) / 128 * 128 + ((i.val : Int) % 128 + 1) % 128 := by decide +kernel
  have := k ⟨x.toNat, by omega⟩
  simpa [Int.toNat_of_nonneg h1] using this
theorem wrap_in {n : Int} (h1 : -9223372036854775808 ≤ n) (h2 : n ≤ 9223372036854775807) : IntKind.i64.wrap n = n := by
  unfold IntKind.wrap
  simp only [IntKind.signed, IntKind.bits]
  simp
  omega
theorem md_in {n m : Int} (h1 : 1 ≤ m) (h2 : m ≤ 100) : 0 ≤ mdN n m ∧ mdN n m < m := by
  have a := Int.tmod_lt_of_pos n (show 0 < m by omega)
  have b : -m < n.tmod m := by
    have := Int.tmod_lt_of_pos (-n) (show 0 < m by omega)
    rw [Int.neg_tmod] at this
    omega
  unfold mdN
  rw [wrap_in (by omega) (by omega)]
  exact ⟨Int.tmod_nonneg _ (by omega), Int.tmod_lt_of_pos _ (by omega)⟩
end Go.Proofs.YthmakddlhaeblaaDoor.V
