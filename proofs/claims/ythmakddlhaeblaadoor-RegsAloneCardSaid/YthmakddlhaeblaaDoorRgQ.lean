/- regs: the law of what is put (part 4): the law. -/
import Derived.Test.YthmakddlhaeblaaDoorRgP0
import Derived.Test.YthmakddlhaeblaaDoorRgP1
import Derived.Test.YthmakddlhaeblaaDoorRgP2
import Derived.Test.YthmakddlhaeblaaDoorRgP3
import Derived.Test.YthmakddlhaeblaaDoorRgH
namespace Go.Proofs.YthmakddlhaeblaaDoor.V
open Go Go.Proofs
set_option maxRecDepth 100000
set_option maxHeartbeats 4000000
set_option linter.unusedVariables false
theorem hiN_in (x : Int) : 0 ≤ hiN x ∧ hiN x < 256 := by rw [hiN_val]; omega
theorem loN_in (x : Int) : 0 ≤ loN x ∧ loN x < 256 := by rw [loN_val]; omega
theorem al_row (a b c d e f g h i r ix iy sp pc wz af bc de hl : Int) (p q : Bool) (im : Int) (u v : Bool) (j k : Int) (s : Bool) (w y : Int) (ixw : (Lit.int .u16 ix).wf = true) (iyw : (Lit.int .u16 iy).wf = true) (ww : (Lit.int .u8 w).wf = true) (yw : (Lit.int .u16 y).wf = true) :
    SC Tryd.prog 4 [.agg [.int .u8 a, .int .u8 b, .int .u8 c, .int .u8 d, .int .u8 e, .int .u8 f, .int .u8 g, .int .u8 h, .int .u8 i, .int .u8 r, .int .u16 ix, .int .u16 iy, .int .u16 sp, .int .u16 pc, .int .u16 wz, .int .u16 af, .int .u16 bc, .int .u16 de, .int .u16 hl, .bool p, .bool q, .int .i64 im, .bool u, .bool v], .int .i64 j, .int .i64 k, .bool s, .int .u8 w, .int .u16 y] V.h0 (fun x _ => x = .bool true) := by
  have x1 := md_in (n := j) (m := 3) (by decide) (by decide)
  have x2 := md_in (n := k) (m := 8) (by decide) (by decide)
  have y1 : mdN j 3 = 0 ∨ mdN j 3 = 1 ∨ mdN j 3 = 2 := by omega
  have y2 : mdN k 8 = 0 ∨ mdN k 8 = 1 ∨ mdN k 8 = 2 ∨ mdN k 8 = 3 ∨ mdN k 8 = 4 ∨ mdN k 8 = 5 ∨ mdN k 8 = 6 ∨ mdN k 8 = 7 := by omega
  obtain ⟨w1, w2⟩ := wf8 ww
  obtain ⟨l1, l2⟩ := loN_in ix
  obtain ⟨g1, g2⟩ := hiN_in ix
  obtain ⟨m1, m2⟩ := loN_in iy
  obtain ⟨n1, n2⟩ := hiN_in iy
  have q1 := hi_pr w1 w2 l1 l2
  have q2 := lo_pr w1 w2 l1 l2
  have q3 := hi_pr g1 g2 w1 w2
  have q4 := lo_pr g1 g2 w1 w2
  have q5 := hi_pr w1 w2 m1 m2
  have q6 := lo_pr w1 w2 m1 m2
  have q7 := hi_pr n1 n2 w1 w2
  have q8 := lo_pr n1 n2 w1 w2
  have q9 := pr_hi_lo (wf16 ixw).1 (wf16 ixw).2
  have q10 := pr_hi_lo (wf16 iyw).1 (wf16 iyw).2
  have q11 := pr_hi_lo (wf16 yw).1 (wf16 yw).2
  rcases y1 with y1 | y1 | y1
  · rcases y2 with y2 | y2 | y2 | y2 | y2 | y2 | y2 | y2
    · exact sc_of_vcXL (by kernel_rfl) (al0_vc a b c d e f g h i r ix iy sp pc wz af bc de hl im p q u v j k s w y (fun x => x = .bool true)) (al00_ok rfl y1 y2 q1 q2 q3 q4 q5 q6 q7 q8 q9 q10 q11)
    · exact sc_of_vcXL (by kernel_rfl) (al1_vc a b c d e f g h i r ix iy sp pc wz af bc de hl im p q u v j k s w y (fun x => x = .bool true)) (al10_ok rfl y1 y2 q1 q2 q3 q4 q5 q6 q7 q8 q9 q10 q11)
    · exact sc_of_vcXL (by kernel_rfl) (al2_vc a b c d e f g h i r ix iy sp pc wz af bc de hl im p q u v j k s w y (fun x => x = .bool true)) (al20_ok rfl y1 y2 q1 q2 q3 q4 q5 q6 q7 q8 q9 q10 q11)
    · exact sc_of_vcXL (by kernel_rfl) (al3_vc a b c d e f g h i r ix iy sp pc wz af bc de hl im p q u v j k s w y (fun x => x = .bool true)) (al30_ok rfl y1 y2 q1 q2 q3 q4 q5 q6 q7 q8 q9 q10 q11)
    · exact sc_of_vcXL (by kernel_rfl) (al4_vc a b c d e f g h i r ix iy sp pc wz af bc de hl im p q u v j k s w y (fun x => x = .bool true)) (al40_ok rfl y1 y2 q1 q2 q3 q4 q5 q6 q7 q8 q9 q10 q11)
    · exact sc_of_vcXL (by kernel_rfl) (al5_vc a b c d e f g h i r ix iy sp pc wz af bc de hl im p q u v j k s w y (fun x => x = .bool true)) (al50_ok rfl y1 y2 q1 q2 q3 q4 q5 q6 q7 q8 q9 q10 q11)
    · exact sc_of_vcXL (by kernel_rfl) (al6_vc a b c d e f g h i r ix iy sp pc wz af bc de hl im p q u v j k s w y (fun x => x = .bool true)) (al60_ok rfl y1 y2 q1 q2 q3 q4 q5 q6 q7 q8 q9 q10 q11)
    · exact sc_of_vcXL (by kernel_rfl) (al7_vc a b c d e f g h i r ix iy sp pc wz af bc de hl im p q u v j k s w y (fun x => x = .bool true)) (al70_ok rfl y1 y2 q1 q2 q3 q4 q5 q6 q7 q8 q9 q10 q11)
  · rcases y2 with y2 | y2 | y2 | y2 | y2 | y2 | y2 | y2
    · exact sc_of_vcXL (by kernel_rfl) (al0_vc a b c d e f g h i r ix iy sp pc wz af bc de hl im p q u v j k s w y (fun x => x = .bool true)) (al01_ok rfl y1 y2 q1 q2 q3 q4 q5 q6 q7 q8 q9 q10 q11)
    · exact sc_of_vcXL (by kernel_rfl) (al1_vc a b c d e f g h i r ix iy sp pc wz af bc de hl im p q u v j k s w y (fun x => x = .bool true)) (al11_ok rfl y1 y2 q1 q2 q3 q4 q5 q6 q7 q8 q9 q10 q11)
    · exact sc_of_vcXL (by kernel_rfl) (al2_vc a b c d e f g h i r ix iy sp pc wz af bc de hl im p q u v j k s w y (fun x => x = .bool true)) (al21_ok rfl y1 y2 q1 q2 q3 q4 q5 q6 q7 q8 q9 q10 q11)
    · exact sc_of_vcXL (by kernel_rfl) (al3_vc a b c d e f g h i r ix iy sp pc wz af bc de hl im p q u v j k s w y (fun x => x = .bool true)) (al31_ok rfl y1 y2 q1 q2 q3 q4 q5 q6 q7 q8 q9 q10 q11)
    · exact sc_of_vcXL (by kernel_rfl) (al4_vc a b c d e f g h i r ix iy sp pc wz af bc de hl im p q u v j k s w y (fun x => x = .bool true)) (al41_ok rfl y1 y2 q1 q2 q3 q4 q5 q6 q7 q8 q9 q10 q11)
    · exact sc_of_vcXL (by kernel_rfl) (al5_vc a b c d e f g h i r ix iy sp pc wz af bc de hl im p q u v j k s w y (fun x => x = .bool true)) (al51_ok rfl y1 y2 q1 q2 q3 q4 q5 q6 q7 q8 q9 q10 q11)
    · exact sc_of_vcXL (by kernel_rfl) (al6_vc a b c d e f g h i r ix iy sp pc wz af bc de hl im p q u v j k s w y (fun x => x = .bool true)) (al61_ok rfl y1 y2 q1 q2 q3 q4 q5 q6 q7 q8 q9 q10 q11)
    · exact sc_of_vcXL (by kernel_rfl) (al7_vc a b c d e f g h i r ix iy sp pc wz af bc de hl im p q u v j k s w y (fun x => x = .bool true)) (al71_ok rfl y1 y2 q1 q2 q3 q4 q5 q6 q7 q8 q9 q10 q11)
  · rcases y2 with y2 | y2 | y2 | y2 | y2 | y2 | y2 | y2
    · exact sc_of_vcXL (by kernel_rfl) (al0_vc a b c d e f g h i r ix iy sp pc wz af bc de hl im p q u v j k s w y (fun x => x = .bool true)) (al02_ok rfl y1 y2 q1 q2 q3 q4 q5 q6 q7 q8 q9 q10 q11)
    · exact sc_of_vcXL (by kernel_rfl) (al1_vc a b c d e f g h i r ix iy sp pc wz af bc de hl im p q u v j k s w y (fun x => x = .bool true)) (al12_ok rfl y1 y2 q1 q2 q3 q4 q5 q6 q7 q8 q9 q10 q11)
    · exact sc_of_vcXL (by kernel_rfl) (al2_vc a b c d e f g h i r ix iy sp pc wz af bc de hl im p q u v j k s w y (fun x => x = .bool true)) (al22_ok rfl y1 y2 q1 q2 q3 q4 q5 q6 q7 q8 q9 q10 q11)
    · exact sc_of_vcXL (by kernel_rfl) (al3_vc a b c d e f g h i r ix iy sp pc wz af bc de hl im p q u v j k s w y (fun x => x = .bool true)) (al32_ok rfl y1 y2 q1 q2 q3 q4 q5 q6 q7 q8 q9 q10 q11)
    · exact sc_of_vcXL (by kernel_rfl) (al4_vc a b c d e f g h i r ix iy sp pc wz af bc de hl im p q u v j k s w y (fun x => x = .bool true)) (al42_ok rfl y1 y2 q1 q2 q3 q4 q5 q6 q7 q8 q9 q10 q11)
    · exact sc_of_vcXL (by kernel_rfl) (al5_vc a b c d e f g h i r ix iy sp pc wz af bc de hl im p q u v j k s w y (fun x => x = .bool true)) (al52_ok rfl y1 y2 q1 q2 q3 q4 q5 q6 q7 q8 q9 q10 q11)
    · exact sc_of_vcXL (by kernel_rfl) (al6_vc a b c d e f g h i r ix iy sp pc wz af bc de hl im p q u v j k s w y (fun x => x = .bool true)) (al62_ok rfl y1 y2 q1 q2 q3 q4 q5 q6 q7 q8 q9 q10 q11)
    · exact sc_of_vcXL (by kernel_rfl) (al7_vc a b c d e f g h i r ix iy sp pc wz af bc de hl im p q u v j k s w y (fun x => x = .bool true)) (al72_ok rfl y1 y2 q1 q2 q3 q4 q5 q6 q7 q8 q9 q10 q11)
end Go.Proofs.YthmakddlhaeblaaDoor.V
