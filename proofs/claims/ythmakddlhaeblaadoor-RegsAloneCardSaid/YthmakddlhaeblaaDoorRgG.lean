/- The laws over registers: what the listed variables hold, as the walks need it. -/
import Derived.Test.YthmakddlhaeblaaDoorRows
import Derived.Test.YthmakddlhaeblaaDoorRgB
import Derived.ProofKit
import Derived.LaidMore
import Derived.OpenShut
import Derived.MakeChecks
import Derived.Stop.Joined
namespace Go.Proofs.YthmakddlhaeblaaDoor
open Go Go.Proofs Go.Proofs.YthmakddlhaeblaaDoor.V Go.ChangeShapes Go.WideShapes Go.ChangeAt Go.WideMaps Go.WideElems Go.RowKit
set_option maxRecDepth 100000
set_option linter.unusedVariables false
def laidR : List (String × DataW Unit) := [("math/bits.deBruijn32tab", Rows.laid_math_bits_deBruijn32tab), ("math/bits.deBruijn64tab", Rows.laid_math_bits_deBruijn64tab), ("internal/strconv.uint64pow10", Rows.laid_internal_strconv_uint64pow10)]
theorem gTab : Tryd.prog.globalNamed "math/bits.deBruijn64tab" = some 3 := by kernel_rfl
theorem tTab : (Tryd.prog.globals[3]?).map (·.type) = some 93 := by kernel_rfl
theorem laidR_ok {W : World} (h : laidMetH Tryd.prog laidR W) : GOK (fun _ => False) W := by
  rw [MakeChecks.laidMetH_plain _ _ _ (by kernel_rfl)] at h
  obtain ⟨ps, ⟨g0, t0, cs0, f0, p0, q0, hg0, ht0, hv0, hd0, ⟨g1, t1, cs1, f1, p1, q1, hg1, ht1, hv1, hd1, _, _⟩, _⟩, _, _⟩ := h
  obtain rfl := Option.some.inj (gTab.symm.trans hg1)
  obtain rfl := Option.some.inj (tTab.symm.trans ht1)
  have hcell : W.cell? ⟨3, 15, none⟩ = some (.int .u8 4) := by
    obtain ⟨xs, m1, rfl, hx1, hlen, hn3, hel⟩ := DataW.trod_array Tryd.underlying93 hd1
    have c5 : Tryd.prog.cellsOf 5 = 1 := by kernel_rfl
    have c93 : Tryd.prog.cellsOf 93 = 64 := by kernel_rfl
    have h15 := hel 15 (by decide)
    have hxs := congrArg (fun x => x.1) hx1
    simp only [Rows.laid_math_bits_deBruijn64tab, DataW.agg.injEq] at hxs
    have hx15 : (xs.map (·.1))[15]? = some (.lit (.int .u8 4)) := by rw [← hxs]; rfl
    rw [List.getElem?_map] at hx15
    cases hx : xs[15]? with
    | none => rw [hx] at hx15; cases hx15
    | some x =>
      rw [hx] at hx15 h15
      obtain ⟨k, e1, e2, _⟩ := DataW.trod_int Tryd.underlying5 h15
      rw [e2] at hx15
      have hk : k = 4 := by simpa using hx15
      subst hk
      rw [c5] at e1
      have hcs : cs1.toList[15]? = some (.int .u8 4) := by
        have := congrArg (fun l => l[0]?) e1
        simpa using this
      have := World.var?_cell gTab hv1 15
      rw [this]
      simpa using hcs
  intro p hp
  simp only [GB, List.mem_cons, List.not_mem_nil, or_false] at hp
  subst hp
  refine ⟨fun h => h, ?_, hcell⟩
  show 3 < W.heap.size
  rcases Nat.lt_or_ge 3 W.heap.size with q | q
  · exact q
  · simp [World.cell?, Array.getElem?_eq_none q] at hcell
/-- The door's own heap meets the condition. -/
theorem door_met (os : Os) (args : Array Value) : laidMetH Tryd.prog laidR ((World.doorLaid Tryd.prog 400 os).forCall (fun _ _ => 0) ⟨#[], args, []⟩).memory :=
  laidMetH_of_parts3 (fuel := 8) (laidMet_of_run' 8 (by kernel_rfl) (by kernel_rfl)) (by kernel_rfl) (by kernel_rfl)
end Go.Proofs.YthmakddlhaeblaaDoor
