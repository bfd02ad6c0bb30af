/- The laws over events: what the listed variables hold, as the walks need it. -/
import Derived.Test.YtdhpdaogakignaaDoorRows
import Derived.Test.YtdhpdaogakignaaDoorEvA
import Derived.ProofKit
import Derived.LaidMore
import Derived.OpenShut
import Derived.MakeChecks
import Derived.Lay
import Derived.Stop.Joined
namespace Go.Proofs.YtdhpdaogakignaaDoor
open Go Go.Proofs Go.Proofs.YtdhpdaogakignaaDoor.V Go.ChangeShapes Go.WideShapes Go.ChangeAt Go.WideMaps Go.WideElems Go.RowKit
set_option maxRecDepth 100000
set_option linter.unusedVariables false
def laidR : List (String × DataW Unit) := [("math/bits.deBruijn32tab", Rows.laid_math_bits_deBruijn32tab), ("math/bits.deBruijn64tab", Rows.laid_math_bits_deBruijn64tab), ("internal/strconv.uint64pow10", Rows.laid_internal_strconv_uint64pow10), ("unicode/utf8.acceptRanges", Rows.laid_unicode_utf8_acceptRanges), ("strconv.ErrRange", Rows.laid_strconv_ErrRange), ("strconv.ErrSyntax", Rows.laid_strconv_ErrSyntax), ("pendulum/event.names", Rows.laid_pendulum_event_names), ("unicode/utf8.first", Rows.laid_unicode_utf8_first)]
theorem gPow : Tryd.prog.globalNamed "internal/strconv.uint64pow10" = some 4 := by kernel_rfl
theorem tPow : (Tryd.prog.globals[4]?).map (·.type) = some 99 := by kernel_rfl
theorem gNam : Tryd.prog.globalNamed "pendulum/event.names" = some 0 := by kernel_rfl
theorem tNam : (Tryd.prog.globals[0]?).map (·.type) = some 41 := by kernel_rfl
theorem c55 : Tryd.prog.cellsOf 55 = 1 := by kernel_rfl
theorem c9 : Tryd.prog.cellsOf 9 = 1 := by kernel_rfl
/-- An array of values of one cell, cell by cell. -/
theorem arr_cells {H : Type} {enc : TypeId × Value → H} {P : Program} {w : World} {base : Nat} {k2 : Bool} {fuel t n e : Nat} {cs : List Value} {ds : List (DataW H)} {p : List MemPlace} (ht : P.underlying t = some (.array n e)) (hce : P.cellsOf e = 1)
    (h : DataW.trod enc P w base (fun x => true) k2 fuel t cs = some (.agg ds, p)) {i : Nat} {d : DataW H} (hi : i < n) (hd : ds[i]? = some d) : ∃ m q, DataW.trod enc P w base (fun x => true) k2 m e ((cs.drop i).take 1) = some (d, q) := by
  obtain ⟨xs, m1, rfl, hx1, hlen, hn3, hel⟩ := DataW.trod_array ht h
  have hxs := congrArg (fun x => x.1) hx1
  simp only [DataW.agg.injEq] at hxs
  subst hxs
  rw [List.getElem?_map] at hd
  cases hx : xs[i]? with
  | none => rw [hx] at hd; cases hd
  | some x =>
    rw [hx] at hd
    cases hd
    have := hel i hi
    rw [hce, Nat.mul_one, hx] at this
    exact ⟨m1, x.2, this⟩
theorem one_cell {cs : Array Value} {i : Nat} {v : Value} (h : (cs.toList.drop i).take 1 = [v]) : cs[i]? = some v := by
  have := congrArg (fun l => l[0]?) h
  simpa using this
theorem laidR_ok {W : World} (h : laidMetH Tryd.prog laidR W) : GOK (fun _ => False) W := by
  rw [MakeChecks.laidMetH_plain _ _ _ (by kernel_rfl)] at h
  obtain ⟨ps, ⟨g0, t0, cs0, f0, p0, q0, hg0, ht0, hv0, hd0, ⟨g1, t1, cs1, f1, p1, q1, hg1, ht1, hv1, hd1, ⟨g2, t2, cs2, f2, p2, q2, hg2, ht2, hv2, hd2, ⟨g3, t3, cs3, f3, p3, q3, hg3, ht3, hv3, hd3, ⟨g4, t4, cs4, f4, p4, q4, hg4, ht4, hv4, hd4, ⟨g5, t5, cs5, f5, p5, q5, hg5, ht5, hv5, hd5, ⟨g6, t6, cs6, f6, p6, q6, hg6, ht6, hv6, hd6, _, _⟩, _⟩, _⟩, _⟩, _⟩, _⟩, _⟩, _, _⟩ := h
  obtain rfl := Option.some.inj (gPow.symm.trans hg2)
  obtain rfl := Option.some.inj (tPow.symm.trans ht2)
  obtain rfl := Option.some.inj (gNam.symm.trans hg6)
  obtain rfl := Option.some.inj (tNam.symm.trans ht6)
  have pow : ∀ (i : Nat) (n : Int), i < 20 → (match (Rows.laid_internal_strconv_uint64pow10 : DataW Unit) with | .agg l => l | _ => [])[i]? = some (.lit (.int .u64 n)) → W.cell? ⟨4, i, none⟩ = some (.int .u64 n) := by
    intro i n hi hn
    obtain ⟨m, q, hq⟩ := arr_cells Tryd.underlying99 c55 hd2 hi hn
    obtain ⟨k, e1, e2, _⟩ := DataW.trod_int Tryd.underlying55 hq
    simp only [Prod.mk.injEq, DataW.lit.injEq, Lit.int.injEq] at e2
    obtain ⟨⟨_, rfl⟩, _⟩ := e2
    rw [World.var?_cell gPow hv2 i]
    exact one_cell e1
  have nam : ∀ (i : Nat) (s : List UInt8), i < 13 → (match (Rows.laid_pendulum_event_names : DataW Unit) with | .agg l => l | _ => [])[i]? = some (.lit (.string s)) → W.cell? ⟨0, i, none⟩ = some (.string ⟨s.toArray⟩) := by
    intro i s hi hn
    obtain ⟨m, q, hq⟩ := arr_cells Tryd.underlying41 c9 hd6 hi hn
    obtain ⟨z, e1, e2, _⟩ := DataW.trod_string Tryd.underlying9 hq
    simp only [Prod.mk.injEq, DataW.lit.injEq, Lit.string.injEq] at e2
    obtain ⟨rfl, _⟩ := e2
    rw [World.var?_cell gNam hv6 i]
    have := one_cell e1
    simpa using this
  have lt4 : 4 < W.heap.size := by
    have hcell := pow 0 1 (by decide) rfl
    rcases Nat.lt_or_ge 4 W.heap.size with q | q
    · exact q
    · simp [World.cell?, Array.getElem?_eq_none q] at hcell
  have key : ∀ p ∈ GB, p.1.block < W.heap.size ∧ W.cell? p.1 = some p.2 := by
    unfold GB
    simp only [List.forall_mem_cons, List.not_mem_nil, false_imp_iff, implies_true, and_true]
    exact ⟨⟨by show 0 < W.heap.size; omega, nam 0 [] (by decide) rfl⟩,
      ⟨by show 0 < W.heap.size; omega, nam 1 [102, 101, 116, 99, 104] (by decide) rfl⟩,
      ⟨by show 0 < W.heap.size; omega, nam 2 [114, 101, 97, 100] (by decide) rfl⟩,
      ⟨by show 0 < W.heap.size; omega, nam 3 [119, 114, 105, 116, 101] (by decide) rfl⟩,
      ⟨by show 0 < W.heap.size; omega, nam 4 [105, 110] (by decide) rfl⟩,
      ⟨by show 0 < W.heap.size; omega, nam 5 [111, 117, 116] (by decide) rfl⟩,
      ⟨by show 0 < W.heap.size; omega, nam 6 [97, 99, 107] (by decide) rfl⟩,
      ⟨by show 0 < W.heap.size; omega, nam 7 [112, 105, 120, 101, 108] (by decide) rfl⟩,
      ⟨by show 0 < W.heap.size; omega, nam 8 [97, 116, 116, 114] (by decide) rfl⟩,
      ⟨by show 0 < W.heap.size; omega, nam 9 [98, 111, 114, 100, 101, 114] (by decide) rfl⟩,
      ⟨by show 0 < W.heap.size; omega, nam 10 [98, 101, 101, 112] (by decide) rfl⟩,
      ⟨by show 0 < W.heap.size; omega, nam 11 [108, 101, 118, 101, 108] (by decide) rfl⟩,
      ⟨by show 0 < W.heap.size; omega, nam 12 [115, 116, 97, 116, 117, 115] (by decide) rfl⟩,
      ⟨lt4, pow 0 1 (by decide) rfl⟩,
      ⟨lt4, pow 1 10 (by decide) rfl⟩,
      ⟨lt4, pow 2 100 (by decide) rfl⟩,
      ⟨lt4, pow 3 1000 (by decide) rfl⟩,
      ⟨lt4, pow 4 10000 (by decide) rfl⟩,
      ⟨lt4, pow 5 100000 (by decide) rfl⟩,
      ⟨lt4, pow 6 1000000 (by decide) rfl⟩,
      ⟨lt4, pow 7 10000000 (by decide) rfl⟩,
      ⟨lt4, pow 8 100000000 (by decide) rfl⟩,
      ⟨lt4, pow 9 1000000000 (by decide) rfl⟩,
      ⟨lt4, pow 10 10000000000 (by decide) rfl⟩,
      ⟨lt4, pow 11 100000000000 (by decide) rfl⟩,
      ⟨lt4, pow 12 1000000000000 (by decide) rfl⟩,
      ⟨lt4, pow 13 10000000000000 (by decide) rfl⟩,
      ⟨lt4, pow 14 100000000000000 (by decide) rfl⟩,
      ⟨lt4, pow 15 1000000000000000 (by decide) rfl⟩,
      ⟨lt4, pow 16 10000000000000000 (by decide) rfl⟩,
      ⟨lt4, pow 17 100000000000000000 (by decide) rfl⟩,
      ⟨lt4, pow 18 1000000000000000000 (by decide) rfl⟩,
      ⟨lt4, pow 19 10000000000000000000 (by decide) rfl⟩⟩
  exact fun p hp => ⟨fun h => h, key p hp⟩
/-- A heap that holds just the listed variables meets the condition. -/
theorem door_met (os : Os) (args : Array Value) : laidMetH Tryd.prog laidR ((World.laidAll Tryd.prog os laidR).forCall (fun _ _ => 0) ⟨#[], args, []⟩).memory := by
  rw [MakeChecks.laidMetH_plain _ _ _ (by kernel_rfl)]
  exact laidMet_laidAll _ (by kernel_rfl) (by kernel_rfl)
end Go.Proofs.YtdhpdaogakignaaDoor
