/- regs: the laws over any registers (part 3): Swap; the chapter's examples as a fact; states of RegsSwaps's rounds. -/
import Derived.Test.YthmakddlhaeblaaDoorRgW
namespace Go.Proofs.YthmakddlhaeblaaDoor.V
open Go Go.Proofs
set_option maxRecDepth 100000
set_option linter.unusedSimpArgs false
set_option linter.unusedVariables false
def swF : List AV → Option AV
  | [.agg [.int .u8 a, .int .u8 b, .int .u8 c, .int .u8 d, .int .u8 e, .int .u8 f, .int .u8 g, .int .u8 h, .int .u8 i, .int .u8 r, .int .u16 ix, .int .u16 iy, .int .u16 sp, .int .u16 pc, .int .u16 wz, .int .u16 af, .int .u16 bc, .int .u16 de, .int .u16 hl, .bool p, .bool q, .int .i64 im, .bool u, .bool v], .int .i64 k] => some (
    if mdN k 3 = 0 then .agg [.int .u8 (hiN af), .int .u8 (loN af), .int .u8 c, .int .u8 d, .int .u8 e, .int .u8 f, .int .u8 g, .int .u8 h, .int .u8 i, .int .u8 r, .int .u16 ix, .int .u16 iy, .int .u16 sp, .int .u16 pc, .int .u16 wz, .int .u16 (prN a b), .int .u16 bc, .int .u16 de, .int .u16 hl, .bool p, .bool q, .int .i64 im, .bool u, .bool v]
    else if mdN k 3 = 1 then .agg [.int .u8 a, .int .u8 b, .int .u8 (hiN bc), .int .u8 (loN bc), .int .u8 (hiN de), .int .u8 (loN de), .int .u8 (hiN hl), .int .u8 (loN hl), .int .u8 i, .int .u8 r, .int .u16 ix, .int .u16 iy, .int .u16 sp, .int .u16 pc, .int .u16 wz, .int .u16 af, .int .u16 (prN c d), .int .u16 (prN e f), .int .u16 (prN g h), .bool p, .bool q, .int .i64 im, .bool u, .bool v]
    else .agg [.int .u8 a, .int .u8 b, .int .u8 c, .int .u8 d, .int .u8 g, .int .u8 h, .int .u8 e, .int .u8 f, .int .u8 i, .int .u8 r, .int .u16 ix, .int .u16 iy, .int .u16 sp, .int .u16 pc, .int .u16 wz, .int .u16 af, .int .u16 bc, .int .u16 de, .int .u16 hl, .bool p, .bool q, .int .i64 im, .bool u, .bool v])
  | _ => none
theorem sw_tr : TrOk Tryd.prog 6 (pureT swF) := by
  refine pureT_ok ?_
  intro xs v h
  unfold swF at h
  split at h
  · simp only [Option.some.injEq] at h
    subst h
    rename_i k
    refine ⟨rfl, ?_, sc_of_vc XR1_ok (by kernel_rfl) (sw_vc _ _ _ _ _ _ _ _ _ _ _ _ _ _ _ _ _ _ _ _ _ _ _ _ k _) ?_⟩
    · split
      · rfl
      · split <;> rfl
    · unfold sw_VC
      by_cases h0 : mdN k 3 = 0
      · rw [if_pos h0]
        exact ⟨fun _ => rfl, fun q => by simp [h0] at q⟩
      · rw [if_neg h0]
        refine ⟨fun q => absurd (of_decide_eq_true q) h0, fun _ => ?_⟩
        by_cases h1 : mdN k 3 = 1
        · rw [if_pos h1]
          exact ⟨fun _ => rfl, fun q => by simp [h1] at q⟩
        · rw [if_neg h1]
          exact ⟨fun q => absurd (of_decide_eq_true q) h1, fun _ => rfl⟩
  · cases h
def lvF : List AV → Option AV
  | [] => some (.bool true)
  | _ => none
theorem lv_tr : TrOk Tryd.prog 5 (pureT lvF) := by
  refine pureT_ok ?_
  intro xs v h
  unfold lvF at h
  split at h
  · cases h
    exact ⟨rfl, rfl, lives_sc⟩
  · cases h
def purR2 : Pur := (5, lvF) :: (6, swF) :: purR1
theorem purR2_ok : PurOk Tryd.prog purR2 := PurOk.cons lv_tr <| PurOk.cons sw_tr purR1_ok
def okR2 : List Nat := [8]
theorem okR2_ok : okFunsX Tryd.prog okR2 = true := by kernel_rfl
noncomputable def XR2 : Cx := cxP Tryd.prog purR2 okR2
theorem XR2_ok : CxOk XR2 := cxP_ok mixedrg purR2_ok okR2_ok
/-- Between two rounds of the 128. -/
def rsT (a b c d e f g h i r ix iy sp pc wz af bc de hl im : Int) (p q u v : Bool) (z x n : Int) : AF × AH := (⟨74, [(1, .int .u8 z), (2, .ptr 0 0), (6, .ptr 1 0), (7, .int .i64 n)]⟩, ⟨2, [(1, .cells 24 [.int .u8 a, .int .u8 b, .int .u8 c, .int .u8 d, .int .u8 e, .int .u8 f, .int .u8 g, .int .u8 h, .int .u8 i, .int .u8 x, .int .u16 ix, .int .u16 iy, .int .u16 sp, .int .u16 pc, .int .u16 wz, .int .u16 af, .int .u16 bc, .int .u16 de, .int .u16 hl, .bool p, .bool q, .int .i64 im, .bool u, .bool v]), (0, .cells 24 [.int .u8 a, .int .u8 b, .int .u8 c, .int .u8 d, .int .u8 e, .int .u8 f, .int .u8 g, .int .u8 h, .int .u8 i, .int .u8 r, .int .u16 ix, .int .u16 iy, .int .u16 sp, .int .u16 pc, .int .u16 wz, .int .u16 af, .int .u16 bc, .int .u16 de, .int .u16 hl, .bool p, .bool q, .int .i64 im, .bool u, .bool v])]⟩)
def rsPre (r : Int) : Prop := 0 ≤ r ∧ r < 256
/-- R, so many rounds on. -/
def rsN (r n : Int) : Int := r / 128 * 128 + (r % 128 + n) % 128
def LRs (a b c d e f g h i r ix iy sp pc wz af bc de hl im : Int) (p q u v : Bool) (z : Int) : LTr := fun n0 fr σ s K => need (n0 = 0) ∧ need (Fits 0 [(0, 0), (1, 1)] fr σ (rsT a b c d e f g h i r ix iy sp pc wz af bc de hl im p q u v z r 0).1 (rsT a b c d e f g h i r ix iy sp pc wz af bc de hl im p q u v z r 0).2) ∧ need (rsPre r) ∧ K (.exit 2) (rsT a b c d e f g h i r ix iy sp pc wz af bc de hl im p q u v z r 128).1 (rsT a b c d e f g h i r ix iy sp pc wz af bc de hl im p q u v z r 128).2 s
noncomputable def XRs (a b c d e f g h i r ix iy sp pc wz af bc de hl im : Int) (p q u v : Bool) (z : Int) : Cx := ⟨Tryd.prog, inl Tryd.prog (purO purR2) (purR2.map (·.1)) 20 (purT purR2) okR2 6, purO purR2, purR2.map (·.1), 20, lookL [(2, LRs a b c d e f g h i r ix iy sp pc wz af bc de hl im p q u v z)]⟩
theorem XRs_ok (a b c d e f g h i r ix iy sp pc wz af bc de hl im : Int) (p q u v : Bool) (z : Int) : CxOk (XRs a b c d e f g h i r ix iy sp pc wz af bc de hl im p q u v z) := ⟨inl_ok (purO_ok purR2_ok) mixedrg (purT_ok purR2_ok) okR2_ok 6, purO_ok purR2_ok, mixedrg⟩
end Go.Proofs.YthmakddlhaeblaaDoor.V
