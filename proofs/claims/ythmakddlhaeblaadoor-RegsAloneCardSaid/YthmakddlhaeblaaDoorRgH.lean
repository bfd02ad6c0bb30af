/- RegsSwaps over the arguments as a row opens them. -/
import Derived.Test.YthmakddlhaeblaaDoorRgF
namespace Go.Proofs.YthmakddlhaeblaaDoor.V
open Go Go.Proofs
set_option maxRecDepth 100000
theorem wf8 {z : Int} (h : (Lit.int .u8 z).wf = true) : 0 ≤ z ∧ z < 256 := by
  have e0 : IntKind.u8.min = 0 := by decide +kernel
  have e1 : IntKind.u8.max = 255 := by decide +kernel
  simp [Lit.wf, e0, e1] at h
  omega
theorem wf16 {z : Int} (h : (Lit.int .u16 z).wf = true) : 0 ≤ z ∧ z < 65536 := by
  have e0 : IntKind.u16.min = 0 := by decide +kernel
  have e1 : IntKind.u16.max = 65535 := by decide +kernel
  simp [Lit.wf, e0, e1] at h
  omega
theorem rs_row (a b c d e f g h i r ix iy sp pc wz af bc de hl : Int) (p q : Bool) (im : Int) (u v : Bool) (z : Int) (aw : (Lit.int .u8 a).wf = true) (bw : (Lit.int .u8 b).wf = true) (cw : (Lit.int .u8 c).wf = true) (dw : (Lit.int .u8 d).wf = true) (ew : (Lit.int .u8 e).wf = true) (fw : (Lit.int .u8 f).wf = true) (gw : (Lit.int .u8 g).wf = true) (hW : (Lit.int .u8 h).wf = true) (iw : (Lit.int .u8 i).wf = true) (rw : (Lit.int .u8 r).wf = true) (ixw : (Lit.int .u16 ix).wf = true) (iyw : (Lit.int .u16 iy).wf = true) (spw : (Lit.int .u16 sp).wf = true) (pcw : (Lit.int .u16 pc).wf = true) (wzw : (Lit.int .u16 wz).wf = true) (afw : (Lit.int .u16 af).wf = true) (bcw : (Lit.int .u16 bc).wf = true) (dew : (Lit.int .u16 de).wf = true) (hlw : (Lit.int .u16 hl).wf = true) :
    SC Tryd.prog 3 [.agg [.int .u8 a, .int .u8 b, .int .u8 c, .int .u8 d, .int .u8 e, .int .u8 f, .int .u8 g, .int .u8 h, .int .u8 i, .int .u8 r, .int .u16 ix, .int .u16 iy, .int .u16 sp, .int .u16 pc, .int .u16 wz, .int .u16 af, .int .u16 bc, .int .u16 de, .int .u16 hl, .bool p, .bool q, .int .i64 im, .bool u, .bool v], .int .u8 z] V.h0 (fun x _ => x = .bool true) :=
  rs_sc (wf8 aw) (wf8 bw) (wf8 cw) (wf8 dw) (wf8 ew) (wf8 fw) (wf8 gw) (wf8 hW) (wf8 iw) (wf8 rw) (wf16 ixw) (wf16 iyw) (wf16 spw) (wf16 pcw) (wf16 wzw) (wf16 afw) (wf16 bcw) (wf16 dew) (wf16 hlw)
end Go.Proofs.YthmakddlhaeblaaDoor.V
