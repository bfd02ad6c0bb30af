/- merge: the chapter's names (part 6): Alone, where all events are of the chip. -/
import Derived.Test.YtngemikgnlgjcaaMgE
namespace Go.Proofs.Ytngemikgnlgjcaa.V
open Go Go.Proofs Go.RowKit Go.Shelf
set_option maxRecDepth 100000
set_option maxHeartbeats 2000000
set_option linter.unusedSimpArgs false
set_option linter.unusedVariables false
theorem alone1 (n B : Nat) (w : World) (h1 : 1 ≤ n) (hB : w.heap[B]? = some (.cells evV 23 (0, 0))) :
    CallsIn Fence.wide n Try.prog 8 #[.slice (some ⟨B, 0, none⟩) 2 2, .int .i64 1] w fun e w' => e = .returned (.bool true) ∧ Below w.heap.size w w' := by
  have hBl : B < w.heap.size := (Array.getElem?_eq_some_iff.1 hB).1
  refine callsIn_of_wp_marks Try.func8 rfl trivial ?_ rfl
  simp only [Try.ntmps8, List.size_toArray, List.length_cons, List.length_nil, Nat.reduceAdd, Nat.reduceSub, Array.replicate_succ, Array.replicate_zero, List.push_toArray, List.append_toArray, List.nil_append, List.cons_append]
  obtain ⟨W0, hW0⟩ : ∃ W0, w.alloc (.cells #[.bool false] 4) = W0 := ⟨_, rfl⟩
  have hs0 : W0.heap.size = w.heap.size + 1 := by rw [← hW0]; simp
  have hv0 : W0.heap[w.heap.size]? = some (.cells #[.bool false] 4 (0, 0)) := by rw [← hW0]; exact World.alloc_heap_new w _
  have hb0 : Below w.heap.size w W0 := by rw [← hW0]; exact (Below.refl _ w).alloc (Nat.le_refl _) _
  have f9 : Fence.wide.fn 9 := trivial
  have f14 : Fence.wide.fn 14 := trivial
  gi_wp2_with (first
    | (gi_at_call 9; refine (check_in _ B _ ((hb0.block B hBl).trans hB)).mono ?_; rintro e W1 ⟨rfl, hb1⟩)
    | (gi_at_call 14; refine (parts_in _ B 1 _).mono ?_; rintro e W2 ⟨rfl, rfl⟩))
  obtain ⟨W3, hW3⟩ : ∃ W3, (((W1.alloc (.cells #[.int .i64 0] 3)).alloc (.cells #[.slice (some ⟨B, 0, none⟩) 2 2] 25)).alloc (.cells #[.int .i64 1] 3)) = W3 := ⟨_, rfl⟩
  have hs01 : W0.heap.size ≤ W1.heap.size := hb1.size
  have hs3 : W3.heap.size = W1.heap.size + 3 := by rw [← hW3]; simp
  have e5 : W3.heap[W1.heap.size]? = some (.cells #[.int .i64 0] 3 (0, 0)) := by
    rw [← hW3]
    exact (Below.heap_alloc _ _ _ (by simp; omega)).trans ((Below.heap_alloc _ _ _ (by simp)).trans (World.alloc_heap_new W1 _))
  have e6 : W3.heap[W1.heap.size + 1]? = some (.cells #[.slice (some ⟨B, 0, none⟩) 2 2] 25 (0, 0)) := by
    rw [← hW3]
    refine (Below.heap_alloc _ _ _ (by simp)).trans ?_
    have := World.alloc_heap_new (W1.alloc (.cells #[.int .i64 0] 3)) (.cells #[.slice (some ⟨B, 0, none⟩) 2 2] 25)
    rwa [World.size_alloc] at this
  have e7 : W3.heap[W1.heap.size + 1 + 1]? = some (.cells #[.int .i64 1] 3 (0, 0)) := by
    rw [← hW3]
    have := World.alloc_heap_new ((W1.alloc (.cells #[.int .i64 0] 3)).alloc (.cells #[.slice (some ⟨B, 0, none⟩) 2 2] 25)) (.cells #[.int .i64 1] 3)
    rwa [World.size_alloc, World.size_alloc] at this
  have hb13 : Below W1.heap.size W1 W3 := by
    rw [← hW3]
    exact (((Below.refl _ W1).alloc (Nat.le_refl _) _).alloc (by simp) _).alloc (by simp; omega) _
  have hb03 : Below W0.heap.size W0 W3 := hb1.trans (hb13.mono hs01)
  have e4 : W3.heap[w.heap.size]? = some (.cells #[.bool false] 4 (0, 0)) := (hb03.block _ (by omega)).trans hv0
  have eB : W3.heap[B]? = some (.cells evV 23 (0, 0)) := (hb03.block _ (by omega)).trans ((hb0.block B hBl).trans hB)
  have hbw3 : Below w.heap.size w W3 := hb0.trans (hb03.mono (by omega))
  rw [hW3]
  refine wpIn_rangeFunc ?_
  intro fn hfn
  obtain ⟨W4, hW4⟩ : ∃ W4, (W3.alloc (.deferred (some []))).alloc (.loop (alRec fn B w.heap.size W1.heap.size (W1.heap.size + 1) (W1.heap.size + 1 + 1) W3.heap.size)) = W4 := ⟨_, rfl⟩
  have hs4 : W4.heap.size = W3.heap.size + 2 := by rw [← hW4]; simp
  have hold : ∀ k, k < W3.heap.size → W4.heap[k]? = W3.heap[k]? := fun k hk => by
    rw [← hW4]; exact (Below.heap_alloc _ _ k (by simp; omega)).trans (Below.heap_alloc _ _ k hk)
  have hb4 : Below w.heap.size w W4 := by rw [← hW4]; exact (hbw3.alloc (by omega) _).alloc (by simp; omega) _
  have hM : AlAt w fn B (W1.heap.size + 1) (W1.heap.size + 1 + 1) W1.heap.size w.heap.size (W3.heap.size + 1) W3.heap.size 0 W4 :=
    ⟨(hold _ (by omega)).trans eB, (hold _ (by omega)).trans e6, (hold _ (by omega)).trans e7, (hold _ (by omega)).trans e5, (hold _ (by omega)).trans e4,
     by rw [← hW4]; have := World.alloc_heap_new (W3.alloc (.deferred (some []))) (.loop (alRec fn B w.heap.size W1.heap.size (W1.heap.size + 1) (W1.heap.size + 1 + 1) W3.heap.size)); rwa [World.size_alloc] at this,
     by rw [← hW4]; exact (Below.heap_alloc _ _ _ (by simp)).trans (World.alloc_heap_new W3 _), hb4⟩
  refine ⟨W3.heap.size + 1, [{ target := .collected W3.heap.size, args := #[] }], W4, { target := .fn (.func 19) #[.pointer (some ⟨W1.heap.size + 1, 0, none⟩), .pointer (some ⟨W1.heap.size + 1 + 1, 0, none⟩)], args := #[.func (.yield (W3.heap.size + 1)) #[] #[]] }, W4, 19,
    #[.func (.yield (W3.heap.size + 1)) #[] #[], .pointer (some ⟨W1.heap.size + 1, 0, none⟩), .pointer (some ⟨W1.heap.size + 1 + 1, 0, none⟩)], W4, ?_, ?_, fun _ _ => trivial, ?_, fun _ => h1, ?_⟩
  · rw [← hW4]; exact run_enterLoop_outer _ _ _ _ _
  · simp [resolve, go_sem]
  · simp [invoke, go_sem]
  · refine (parts1 (n - 1) (W3.heap.size + 1) B (W1.heap.size + 1) (W1.heap.size + 1 + 1) (AlAt w fn B (W1.heap.size + 1) (W1.heap.size + 1 + 1) W1.heap.size w.heap.size (W3.heap.size + 1) W3.heap.size) W4
      (fun k V h => ⟨h.hB, h.h1, h.h2⟩) (fun k V V' h hb => h.keep hb)
      (fun t k V hk h => alYield (n - 1 - 1) w fn B (W1.heap.size + 1) (W1.heap.size + 1 + 1) W1.heap.size w.heap.size (W3.heap.size + 1) W3.heap.size t k V (by omega) (by omega) (by omega) hk h) hM).mono ?_
    rintro e W5 ⟨⟨v0, rfl⟩, q⟩
    have hl5 : W3.heap.size + 1 < W5.heap.size := (Array.getElem?_eq_some_iff.1 q.L).1
    have hend := run_endLoop (P := Try.prog) q.L (by simp [alRec])
    obtain ⟨W, hWe⟩ : ∃ W, W5.putObj (W3.heap.size + 1) (.loop { alRec fn B w.heap.size W1.heap.size (W1.heap.size + 1) (W1.heap.size + 1 + 1) W3.heap.size with state := .exhausted }) = W := ⟨_, rfl⟩
    rw [hWe] at hend
    have ot : ∀ {b : Nat} {o : Obj}, b ≠ W3.heap.size + 1 → W5.heap[b]? = some o → W.heap[b]? = some o := fun hne e => by rw [← hWe]; exact (World.putObj_heap_other hne).trans e
    have c5 := ot (by omega) q.hN
    have c4 := ot (by omega) q.hR
    have hK := ot (by omega) q.K
    have hbw' : Below w.heap.size w W := by rw [← hWe]; exact q.below.grown (grownBy_putObj' W5 _ _) q.below.size (fun k e => by cases e; omega)
    have hD : w.heap.size < W3.heap.size := by omega
    have k5 : W.cell? ⟨W1.heap.size, 0, none⟩ = some (.int .i64 2) := by simp [World.cell?, c5]
    have k4 : W.cell? ⟨w.heap.size, 0, none⟩ = some (.bool false) := by simp [World.cell?, c4]
    have f4 : W.frozen? ⟨w.heap.size, 0, none⟩ = false := by simp [World.frozen?, c4]
    refine ⟨none, W, hend, ?_⟩
    clear hW3 hW0 hW4 hM hold hWe hend q
    gi_wp2
    obtain ⟨W6, hW6⟩ : ∃ W6, W.setCell ⟨w.heap.size, 0, none⟩ (.bool true) = W6 := ⟨_, rfl⟩
    have g6 : W.grownBy W6 (some w.heap.size) := by
      rw [← hW6]
      exact ⟨rfl, rfl, rfl, (KeepsWalks.setCell W _ _).size, fun k _ hk => Below.heap_setCell _ _ _ k (fun e => hk (by rw [e]))⟩
    have hK6 : W6.heap[W3.heap.size]? = some (.deferred (some [])) := (g6.block _ (Array.getElem?_eq_some_iff.1 hK).1 (fun e => by have := Option.some.inj e; omega)).trans hK
    have v6 : W6.heap[w.heap.size]? = some (.cells #[.bool true] 4 (0, 0)) := by
      rw [← hW6]
      obtain ⟨hlt, hk'⟩ := Array.getElem?_eq_some_iff.1 c4
      show (W.heap.modify w.heap.size _)[w.heap.size]? = _
      rw [Array.getElem?_eq_getElem (by rw [Array.size_modify]; exact hlt), Array.getElem_modify_self, hk']
      rfl
    have b6 : Below w.heap.size w W6 := hbw'.grown g6 hbw'.size (fun k e => by cases e; omega)
    rw [hW6, ← hs3]
    refine ⟨by simp, .inl ⟨_, _, rfl, run_takeDeferred hK6, ?_⟩⟩
    have v7 : (W6.putObj W3.heap.size (.deferred none)).cell? ⟨w.heap.size, 0, none⟩ = some (.bool true) := by
      have := (World.putObj_heap_other (w := W6) (o := .deferred none) (show w.heap.size ≠ W3.heap.size by omega)).trans v6
      simp [World.cell?, this]
    refine ⟨.bool true, ?_, rfl, b6.grown (grownBy_putObj' W6 _ _) b6.size (fun k e => by cases e; omega)⟩
    have hres : Try.f8.results = #[.cell 4 4] := rfl
    have ha : (isAgg 4).run Try.prog (W6.putObj W3.heap.size (.deferred none)) = .ok false (W6.putObj W3.heap.size (.deferred none)) := run_isAgg_plain Try.underlying4 rfl _
    have had : (asAddr (.pointer (some ⟨w.heap.size, 0, none⟩))).run Try.prog (W6.putObj W3.heap.size (.deferred none)) = .ok ⟨w.heap.size, 0, none⟩ (W6.putObj W3.heap.size (.deferred none)) := rfl
    simp [results, hres, loadVar, ha, v7, Sem.run_bind, had]
end Go.Proofs.Ytngemikgnlgjcaa.V
