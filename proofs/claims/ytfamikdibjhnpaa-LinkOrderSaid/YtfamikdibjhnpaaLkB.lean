/- link: what is known ahead (part 2): which messages may have which fields. -/
import Derived.Test.YtfamikdibjhnpaaLkV
namespace Go.Proofs.Ytfamikdibjhnpaa.V
open Go Go.Proofs
set_option maxRecDepth 100000
set_option linter.unusedSimpArgs false
set_option linter.unusedVariables false
def g1 (k t c h b p v : Int) : Bool := (c == 0) && (h == 0) && (b == 0) && (p == 0) && (v == 0)
theorem f1_ok (k t c h b p v : Int) : f1_VC k t c h b p v (fun u => u = .bool (g1 k t c h b p v)) := by
  unfold f1_VC g1
  simp [Bool.and_assoc]
def f1F : List AV → Option AV
  | [.agg [.int .i64 k, .int .i64 t, .int .i64 c, .int .u8 h, .int .i64 b, .int .i64 p, .int .u8 v]] => some (.bool (g1 k t c h b p v))
  | _ => none
theorem f1_tr : TrOk Try.prog 20 (pureT f1F) := by
  refine pureT_ok ?_
  intro xs u e
  unfold f1F at e
  split at e
  · cases e; exact ⟨rfl, rfl, sc_of_vc XL0_ok (by kernel_rfl) (f1_vc _ _ _ _ _ _ _ _) (f1_ok _ _ _ _ _ _ _)⟩
  · cases e
def g2 (k t c h b p v : Int) : Bool := decide (1 ≤ c) && decide (c ≤ 7) && (h == 0) && (b == 0) && (p == 0)
theorem f2_ok (k t c h b p v : Int) : f2_VC k t c h b p v (fun u => u = .bool (g2 k t c h b p v)) := by
  unfold f2_VC g2
  by_cases h1 : 1 ≤ c
  · by_cases h2 : c ≤ 7
    · simp [h1, h2, Bool.and_assoc]
    · simp [h1, h2]
  · simp [h1]
def f2F : List AV → Option AV
  | [.agg [.int .i64 k, .int .i64 t, .int .i64 c, .int .u8 h, .int .i64 b, .int .i64 p, .int .u8 v]] => some (.bool (g2 k t c h b p v))
  | _ => none
theorem f2_tr : TrOk Try.prog 21 (pureT f2F) := by
  refine pureT_ok ?_
  intro xs u e
  unfold f2F at e
  split at e
  · cases e; exact ⟨rfl, rfl, sc_of_vc XL0_ok (by kernel_rfl) (f2_vc _ _ _ _ _ _ _ _) (f2_ok _ _ _ _ _ _ _)⟩
  · cases e
def g3 (k t c h b p v : Int) : Bool := decide (1 ≤ c) && decide (c ≤ 8) && (b == 0) && (p == 0) && (v == 0)
theorem f3_ok (k t c h b p v : Int) : f3_VC k t c h b p v (fun u => u = .bool (g3 k t c h b p v)) := by
  unfold f3_VC g3
  by_cases h1 : 1 ≤ c
  · by_cases h2 : c ≤ 8
    · simp [h1, h2, Bool.and_assoc]
    · simp [h1, h2]
  · simp [h1]
def f3F : List AV → Option AV
  | [.agg [.int .i64 k, .int .i64 t, .int .i64 c, .int .u8 h, .int .i64 b, .int .i64 p, .int .u8 v]] => some (.bool (g3 k t c h b p v))
  | _ => none
theorem f3_tr : TrOk Try.prog 22 (pureT f3F) := by
  refine pureT_ok ?_
  intro xs u e
  unfold f3F at e
  split at e
  · cases e; exact ⟨rfl, rfl, sc_of_vc XL0_ok (by kernel_rfl) (f3_vc _ _ _ _ _ _ _ _) (f3_ok _ _ _ _ _ _ _)⟩
  · cases e
def g4 (k t c h b p v : Int) : Bool := (decide (b = 5) || decide (b = 7)) && decide (0 ≤ p) && decide (p < 16384) && (c == 0) && (h == 0)
theorem f4_ok (k t c h b p v : Int) : f4_VC k t c h b p v (fun u => u = .bool (g4 k t c h b p v)) := by
  unfold f4_VC g4
  by_cases h1 : b = 5
  · by_cases h3 : 0 ≤ p
    · by_cases h4 : p < 16384
      · simp [h1, h3, h4]
      · simp [h1, h3, h4]
    · simp [h1, h3]
  · by_cases h2 : b = 7
    · by_cases h3 : 0 ≤ p
      · by_cases h4 : p < 16384
        · simp [h2, h3, h4]
        · simp [h2, h3, h4]
      · simp [h2, h3]
    · simp [h1, h2]
def f4F : List AV → Option AV
  | [.agg [.int .i64 k, .int .i64 t, .int .i64 c, .int .u8 h, .int .i64 b, .int .i64 p, .int .u8 v]] => some (.bool (g4 k t c h b p v))
  | _ => none
theorem f4_tr : TrOk Try.prog 23 (pureT f4F) := by
  refine pureT_ok ?_
  intro xs u e
  unfold f4F at e
  split at e
  · cases e; exact ⟨rfl, rfl, sc_of_vc XL0_ok (by kernel_rfl) (f4_vc _ _ _ _ _ _ _ _) (f4_ok _ _ _ _ _ _ _)⟩
  · cases e
def g5 (k t c h b p v : Int) : Bool := (c == 0) && (h == 0) && (b == 0) && (p == 0)
theorem f5_ok (k t c h b p v : Int) : f5_VC k t c h b p v (fun u => u = .bool (g5 k t c h b p v)) := by
  unfold f5_VC g5
  simp [Bool.and_assoc]
def f5F : List AV → Option AV
  | [.agg [.int .i64 k, .int .i64 t, .int .i64 c, .int .u8 h, .int .i64 b, .int .i64 p, .int .u8 v]] => some (.bool (g5 k t c h b p v))
  | _ => none
theorem f5_tr : TrOk Try.prog 24 (pureT f5F) := by
  refine pureT_ok ?_
  intro xs u e
  unfold f5F at e
  split at e
  · cases e; exact ⟨rfl, rfl, sc_of_vc XL0_ok (by kernel_rfl) (f5_vc _ _ _ _ _ _ _ _) (f5_ok _ _ _ _ _ _ _)⟩
  · cases e
def fitF : List AV → Option AV
  | [] => some (.agg [.nilFunc, .func (Fn.func 21) [] [], .func (Fn.func 22) [] [], .func (Fn.func 23) [] [], .func (Fn.func 20) [] [], .func (Fn.func 20) [] [], .func (Fn.func 24) [] []])
  | _ => none
theorem fit_tr : TrOk Try.prog 18 (pureT fitF) := by
  refine pureT_ok ?_
  intro xs u e
  unfold fitF at e
  split at e
  · cases e; exact ⟨rfl, rfl, sc_of_vc XL0_ok (by kernel_rfl) (fit_vc _) rfl⟩
  · cases e
def purCk : Pur := [(18, fitF), (20, f1F), (21, f2F), (22, f3F), (23, f4F), (24, f5F)]
theorem purCk_ok : PurOk Try.prog purCk := PurOk.cons fit_tr <| PurOk.cons f1_tr <| PurOk.cons f2_tr <| PurOk.cons f3_tr <| PurOk.cons f4_tr <| PurOk.cons f5_tr PurOk.nil
noncomputable def XCk : Cx := cxP Try.prog purCk []
theorem XCk_ok : CxOk (cxP Try.prog purCk []) := cxP_ok mixedlives purCk_ok rfl
end Go.Proofs.Ytfamikdibjhnpaa.V
