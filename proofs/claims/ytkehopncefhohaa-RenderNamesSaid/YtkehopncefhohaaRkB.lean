/- render: the keys of an empty map (part 1): its iterator gives nothing. render: the keys of an empty map (part 2): ranges over a function that never yields; slices.AppendSeq there. -/
import Derived.RangeFuncIn
import Derived.RangeFuncRecord
import Derived.RangeFuncLeaves
import Derived.RangeFuncSeq
import Derived.OwnWalkIn
import Derived.TacticsInMore
import Derived.RegionIn
import Derived.LoopNIn
import Derived.LoopIn
import Derived.WalkKit
import Derived.Below
import Derived.Laws.IdiomRangeMap
import Derived.Test.YtkehopncefhohaaV1
import Derived.Test.YtkehopncefhohaaProg
import Derived.RangeFuncGives
import Derived.RangeFuncOwn
import Derived.Shelf.Abstract
namespace Go.Proofs.Ytkehopncefhohaa.V
open Go Go.Proofs Go.RowKit
set_option maxRecDepth 100000
set_option maxHeartbeats 1000000
set_option linter.unusedSimpArgs false
set_option linter.unusedVariables false
theorem run_next_none {W : World} {b c : Nat} (ty : TypeId) (hb : W.heap[b]? = some (.map #[] c)) :
    (Instr.next (.pointer (some ⟨W.heap.size, 0, none⟩)) false ty).run Try.prog (W.alloc (.mapIter (some b) c #[] c)) = .ok (.tuple #[.bool false]) (W.alloc (.mapIter (some b) c #[] c)) := by
  have hlt : b < W.heap.size := (Array.getElem?_eq_some_iff.1 hb).1
  have h1 : (W.alloc (.mapIter (some b) c #[] c)).heap[W.heap.size]? = some (.mapIter (some b) c #[] c) := World.alloc_heap_new W _
  have h2 : (W.alloc (.mapIter (some b) c #[] c)).heap[b]? = some (.map #[] c) := (Below.heap_alloc W _ b hlt).trans hb
  have g1 : (getObj W.heap.size).run Try.prog (W.alloc (.mapIter (some b) c #[] c)) = .ok (.mapIter (some b) c #[] c) (W.alloc (.mapIter (some b) c #[] c)) := by unfold getObj; simp only [Sem.run, h1]
  have g2 : (getObj b).run Try.prog (W.alloc (.mapIter (some b) c #[] c)) = .ok (.map #[] c) (W.alloc (.mapIter (some b) c #[] c)) := by simp [getObj, Sem.run, h2]
  have emp : ∀ p : MapEntry → Bool, (#[] : Array MapEntry).filter p = #[] := fun p => rfl
  have forced : (Question.mapNext 1).forced = true := rfl
  simp only [Instr.next, Sem.run_bind, g1, g2, Result.andThen_ok, emp]
  simp [forced]
theorem run_range_none {W : World} {b c : Nat} (hb : W.heap[b]? = some (.map #[] c)) :
    (Instr.range 42 (.map (some b))).run Try.prog W = .ok (.pointer (some ⟨W.heap.size, 0, none⟩)) (W.alloc (.mapIter (some b) c #[] c)) := by
  have g2 : (getObj b).run Try.prog W = .ok (.map #[] c) W := by simp [getObj, Sem.run, hb]
  simp [Instr.range, run_underlying Try.underlying42, Sem.run_bind, g2, Result.andThen_ok]
/-- The iterator over an empty map's keys: it never yields. -/
theorem keys1_none (n l Bm b c : Nat) (W : World) (hm : W.cell? ⟨Bm, 0, none⟩ = some (.map (some b))) (hb : W.heap[b]? = some (.map #[] c)) :
    CallsIn Fence.wide n Try.prog 28 #[.func (.yield l) #[] #[], .pointer (some ⟨Bm, 0, none⟩)] W fun e W' => (∃ v, e = .returned v) ∧ W' = W.alloc (.mapIter (some b) c #[] c) := by
  refine callsIn_of_wp Try.func28 rfl trivial ?_ rfl
  simp only [Try.ntmps28, List.size_toArray, List.length_cons, List.length_nil, Nat.reduceAdd, Nat.reduceSub, Array.replicate_succ, Array.replicate_zero, List.push_toArray, List.append_toArray, List.nil_append, List.cons_append]
  have hrg := run_range_none hb
  have hnx := fun ty => run_next_none ty hb
  gi_wp2
  refine wpIn_loop_rounds 1 ?_
  rw [roundsIn_succ]
  gi_wp2
  go_end0
  exact ⟨⟨_, rfl⟩, rfl⟩
end Go.Proofs.Ytkehopncefhohaa.V
namespace Go.Proofs.Ytkehopncefhohaa.V
open Go Go.Proofs Go.RowKit Go.Shelf
set_option maxRecDepth 100000
set_option maxHeartbeats 2000000
set_option linter.unusedSimpArgs false
set_option linter.unusedVariables false
/-- A range over a function that never yields. -/
theorem rangeFunc0 {P : Program} {n gf : Nat} {lb : Array Value} {g : Operand} {ps : Array Tmp} {assign body : Code} {Q : Exit → Act → World → Prop} {a : Act} {w : World} (h1 : 1 ≤ n)
    (hg : a.eval g = .func (.func gf) #[] lb) (eg : ∀ args w, (callFunc gf args).run P w = .ok (.enter gf args) w)
    (hcall : ∀ l W1, Below w.heap.size w W1 → CallsIn Fence.wide (n - 1) P gf (#[.func (.yield l) #[] #[]] ++ lb) W1 fun e W' => (∃ v, e = .returned v) ∧ Below W1.heap.size W1 W')
    (hdone : ∀ W D, Below w.heap.size w W → w.heap.size ≤ D → W.heap[D]? = some (.deferred (some [])) → Q .normal { a with defers := { target := .collected D, args := #[] } :: a.defers } W) :
    (Code.rangeFunc g ps assign body).wpIn Fence.wide n P Q a w := by
  refine wpIn_rangeFunc ?_
  intro fn hfn
  obtain ⟨R, hR⟩ : ∃ R : Loop, R = { state := .ready, pending := none, fn, tmps := a.tmps, params := ps, assign, body, defers := w.heap.size } := ⟨_, rfl⟩
  obtain ⟨W1, hW1⟩ : ∃ W1, (w.alloc (.deferred (some []))).alloc (.loop R) = W1 := ⟨_, rfl⟩
  have hs1 : W1.heap.size = w.heap.size + 2 := by rw [← hW1]; simp
  have hb1 : Below w.heap.size w W1 := by rw [← hW1]; exact ((Below.refl _ w).alloc (Nat.le_refl _) _).alloc (by simp) _
  have hL : W1.heap[w.heap.size + 1]? = some (.loop R) := by rw [← hW1]; have := World.alloc_heap_new (w.alloc (.deferred (some []))) (.loop R); rwa [World.size_alloc] at this
  have hK : W1.heap[w.heap.size]? = some (.deferred (some [])) := by rw [← hW1]; exact (Below.heap_alloc _ _ _ (by simp)).trans (World.alloc_heap_new w _)
  refine ⟨w.heap.size + 1, [{ target := .collected w.heap.size, args := #[] }], W1, { target := .fn (.func gf) lb, args := #[.func (.yield (w.heap.size + 1)) #[] #[]] }, W1, gf, #[.func (.yield (w.heap.size + 1)) #[] #[]] ++ lb, W1, ?_, ?_, fun _ _ => trivial, ?_, fun _ => h1, ?_⟩
  · rw [← hW1, hR]; exact run_enterLoop_outer _ _ _ _ _
  · unfold resolve
    simp only [hg]
    simp [go_sem]
  · simp [invoke, go_sem, eg]
  · refine (hcall (w.heap.size + 1) W1 hb1).mono ?_
    rintro e W2 ⟨⟨v0, rfl⟩, h2⟩
    have hL2 : W2.heap[w.heap.size + 1]? = some (.loop R) := (h2.block _ (by omega)).trans hL
    have hK2 : W2.heap[w.heap.size]? = some (.deferred (some [])) := (h2.block _ (by omega)).trans hK
    have hend := run_endLoop (P := P) hL2 (by rw [hR]; simp)
    have hp : R.pending = none := by rw [hR]
    rw [hp] at hend
    refine ⟨none, _, hend, ?_⟩
    have hlt : w.heap.size + 1 < W2.heap.size := (Array.getElem?_eq_some_iff.1 hL2).1
    have hb2 : Below w.heap.size w W2 := hb1.trans (h2.mono (by omega))
    refine hdone _ w.heap.size ?_ (Nat.le_refl _) ((World.putObj_heap_other (by omega)).trans hK2)
    exact hb2.grown (grownBy_putObj' W2 _ _) hb2.size (fun k e => by cases e; omega)
/-- The iterator over an empty map's keys, wherever it lies. -/
theorem keys1_at (n l Bm b c : Nat) {w W : World} (hB : Bm < w.heap.size) (hbw : b < w.heap.size) (hW : Below w.heap.size w W) (hm : w.cell? ⟨Bm, 0, none⟩ = some (.map (some b))) (hb : w.heap[b]? = some (.map #[] c)) :
    CallsIn Fence.wide n Try.prog 28 #[.func (.yield l) #[] #[], .pointer (some ⟨Bm, 0, none⟩)] W fun e W' => (∃ v, e = .returned v) ∧ Below W.heap.size W W' := by
  refine (keys1_none n l Bm b c W ((hW.cell (p := ⟨Bm, 0, none⟩) hB).trans hm) ((hW.block b hbw).trans hb)).mono ?_
  rintro e W' ⟨hv, rfl⟩
  exact ⟨hv, (Below.refl _ W).alloc (Nat.le_refl _) _⟩
theorem appendSeq_none (n Bm b c : Nat) (w : World) (h1 : 1 ≤ n) (hB : Bm < w.heap.size) (hbw : b < w.heap.size) (hm : w.cell? ⟨Bm, 0, none⟩ = some (.map (some b))) (hb : w.heap[b]? = some (.map #[] c)) :
    CallsIn Fence.wide n Try.prog 47 #[.slice none 0 0, .func (.func 28) #[] #[.pointer (some ⟨Bm, 0, none⟩)]] w fun e w' => e = .returned (.slice none 0 0) ∧ Below w.heap.size w w' := by
  refine callsIn_of_wp_marks Try.func47 rfl trivial ?_ rfl
  simp only [Try.ntmps47, List.size_toArray, List.length_cons, List.length_nil, Nat.reduceAdd, Nat.reduceSub, Array.replicate_succ, Array.replicate_zero, List.push_toArray, List.append_toArray, List.nil_append, List.cons_append]
  gi_wp2
  obtain ⟨W0, hW0⟩ : ∃ W0, w.alloc (.cells #[.slice none 0 0] 44) = W0 := ⟨_, rfl⟩
  have hs0 : W0.heap.size = w.heap.size + 1 := by rw [← hW0]; simp
  have hv0 : W0.heap[w.heap.size]? = some (.cells #[.slice none 0 0] 44 (0, 0)) := by rw [← hW0]; exact World.alloc_heap_new w _
  have hb0 : Below w.heap.size w W0 := by rw [← hW0]; exact (Below.refl _ w).alloc (Nat.le_refl _) _
  rw [hW0]
  refine rangeFunc0 (gf := 28) (lb := #[.pointer (some ⟨Bm, 0, none⟩)]) h1 rfl (enters_of Try.func28 (by kernel_rfl) rfl) ?_ ?_
  · intro l W1 hb1
    exact keys1_at (n - 1) l Bm b c (w := W0) (by omega) (by omega) hb1 ((hb0.cell (p := ⟨Bm, 0, none⟩) hB).trans hm) ((hb0.block b hbw).trans hb)
  · intro W D hbW hD hK
    have hv : W.heap[w.heap.size]? = some (.cells #[.slice none 0 0] 44 (0, 0)) := (hbW.block _ (by omega)).trans hv0
    have hc : W.cell? ⟨w.heap.size, 0, none⟩ = some (.slice none 0 0) := by simp [World.cell?, hv]
    have hbw' : Below w.heap.size w W := hb0.trans (hbW.mono (by omega))
    gi_wp2
    refine ⟨by simp, .inl ⟨_, _, rfl, run_takeDeferred hK, ?_⟩⟩
    exact ⟨_, results_tmp rfl _ _ _, rfl, hbw'.grown (grownBy_putObj' W _ _) hbw'.size (fun k e => by cases e; omega)⟩
end Go.Proofs.Ytkehopncefhohaa.V
