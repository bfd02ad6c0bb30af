/- merge: the chapter's names (part 4): Alone, where nothing is of the chip. -/
import Derived.Test.YtngemikgnlgjcaaMgC
namespace Go.Proofs.Ytngemikgnlgjcaa.V
open Go Go.Proofs Go.RowKit Go.Shelf
set_option maxRecDepth 100000
set_option maxHeartbeats 2000000
set_option linter.unusedSimpArgs false
set_option linter.unusedVariables false
theorem check_run : (xF Try.prog (fun _ => none) qtMg okMg 40 9 [.slice 0 0 2 (some 2)] ⟨1, [(0, .ro evL)]⟩).map (·.1) = some (.int .i64 0) := by kernel_rfl
theorem check_sc : SC Try.prog 9 [.slice 0 0 2 (some 2)] ⟨1, [(0, .ro evL)]⟩ (fun u _ => u = .int .i64 0) := by
  have h := check_run
  cases hr : xF Try.prog (fun _ => none) qtMg okMg 40 9 [.slice 0 0 2 (some 2)] ⟨1, [(0, .ro evL)]⟩ with
  | none => rw [hr] at h; cases h
  | some r =>
    obtain ⟨v, τ⟩ := r
    refine (xF_sound (orc_none Try.prog) mixedlives okMg_ok 40 9 _ _ v τ hr).mono ?_
    rintro u τ' ⟨rfl, rfl⟩
    rw [hr] at h
    simpa using h
theorem ev1_wr : ∀ b, ((⟨1, [(0, .ro evL)]⟩ : AH).get b).wr = false := by
  intro i
  by_cases i0 : i = 0
  · subst i0; rfl
  · simp [AH.get, lookH, Ne.symm i0, AObj.wr]
theorem check_in (n B : Nat) (W : World) (hB : W.heap[B]? = some (.cells evV 23 (0, 0))) :
    CallsIn Fence.wide n Try.prog 9 #[.slice (some ⟨B, 0, none⟩) 2 2] W fun e W' => e = .returned (.int .i64 0) ∧ Below W.heap.size W W' := by
  have hr : HR (fun b => if b = 0 then some ⟨B, 0, 1, 2⟩ else none) ⟨1, [(0, .ro evL)]⟩ W := by
    refine ⟨?_, ?_, ?_, fun b b' r r' _ _ _ hw _ => by rw [ev1_wr] at hw; cases hw⟩
    · intro b r h
      split at h
      · show b < 1; omega
      · cases h
    · intro b r h
      split at h
      · cases h; exact (Array.getElem?_eq_some_iff.1 hB).1
      · cases h
    · intro b r h
      split at h
      · rename_i e; subst e; cases h; exact ⟨[], evV.toList, [], 23, (0, 0), by simpa using hB, rfl, evV_VRs _⟩
      · cases h
  refine callsIn_wide.2 (Calls.mono (calls_ro hr ev1_wr (.cons (.slice (o := 0) (b := 0) (r := ⟨B, 0, 1, 2⟩) rfl) .nil) check_sc) ?_)
  rintro e w' ⟨u, v', ρ', rfl, rfl, hv, hb⟩
  cases hv
  exact ⟨rfl, hb⟩
theorem parts_in (n B : Nat) (chip : Int) (W : World) : CallsIn Fence.wide n Try.prog 14 #[.slice (some ⟨B, 0, none⟩) 2 2, .int .i64 chip] W fun e W' => e = .returned (.func (.func 19) #[] #[.pointer (some ⟨W.heap.size, 0, none⟩), .pointer (some ⟨W.heap.size + 1, 0, none⟩)]) ∧ W' = (W.alloc (.cells #[.slice (some ⟨B, 0, none⟩) 2 2] 25)).alloc (.cells #[.int .i64 chip] 3) := by
  refine callsIn_of_wp Try.func14 rfl trivial ?_ rfl
  simp only [Try.ntmps14, List.size_toArray, List.length_cons, List.length_nil, Nat.reduceAdd, Nat.reduceSub, Array.replicate_succ, Array.replicate_zero, List.push_toArray, List.append_toArray, List.nil_append, List.cons_append]
  gi_wp2
  go_ret
  exact ⟨by simp, rfl⟩
theorem alone3 (n B : Nat) (w : World) (h1 : 1 ≤ n) (hB : w.heap[B]? = some (.cells evV 23 (0, 0))) :
    CallsIn Fence.wide n Try.prog 8 #[.slice (some ⟨B, 0, none⟩) 2 2, .int .i64 3] w fun e w' => e = .returned (.bool false) ∧ Below w.heap.size w w' := by
  have hBl : B < w.heap.size := (Array.getElem?_eq_some_iff.1 hB).1
  refine callsIn_of_wp_marks Try.func8 rfl trivial ?_ rfl
  simp only [Try.ntmps8, List.size_toArray, List.length_cons, List.length_nil, Nat.reduceAdd, Nat.reduceSub, Array.replicate_succ, Array.replicate_zero, List.push_toArray, List.append_toArray, List.nil_append, List.cons_append]
  obtain ⟨W0, hW0⟩ : ∃ W0, w.alloc (.cells #[.bool false] 4) = W0 := ⟨_, rfl⟩
  have hs0 : W0.heap.size = w.heap.size + 1 := by rw [← hW0]; simp
  have hv0 : W0.heap[w.heap.size]? = some (.cells #[.bool false] 4 (0, 0)) := by rw [← hW0]; exact World.alloc_heap_new w _
  have hb0 : Below w.heap.size w W0 := by rw [← hW0]; exact (Below.refl _ w).alloc (Nat.le_refl _) _
  have f9 : Fence.wide.fn 9 := trivial
  have f14 : Fence.wide.fn 14 := trivial
  gi_wp2_with (first
    | (gi_at_call 9; refine (check_in _ B _ ((hb0.block B hBl).trans hB)).mono ?_; rintro e W1 ⟨rfl, hb1⟩)
    | (gi_at_call 14; refine (parts_in _ B 3 _).mono ?_; rintro e W2 ⟨rfl, rfl⟩))
  obtain ⟨W3, hW3⟩ : ∃ W3, (((W1.alloc (.cells #[.int .i64 0] 3)).alloc (.cells #[.slice (some ⟨B, 0, none⟩) 2 2] 25)).alloc (.cells #[.int .i64 3] 3)) = W3 := ⟨_, rfl⟩
  have hs01 : W0.heap.size ≤ W1.heap.size := hb1.size
  have hs3 : W3.heap.size = W1.heap.size + 3 := by rw [← hW3]; simp
  have e5 : W3.heap[W1.heap.size]? = some (.cells #[.int .i64 0] 3 (0, 0)) := by
    rw [← hW3]
    exact (Below.heap_alloc _ _ _ (by simp; omega)).trans ((Below.heap_alloc _ _ _ (by simp)).trans (World.alloc_heap_new W1 _))
  have e6 : W3.heap[W1.heap.size + 1]? = some (.cells #[.slice (some ⟨B, 0, none⟩) 2 2] 25 (0, 0)) := by
    rw [← hW3]
    refine (Below.heap_alloc _ _ _ (by simp)).trans ?_
    have := World.alloc_heap_new (W1.alloc (.cells #[.int .i64 0] 3)) (.cells #[.slice (some ⟨B, 0, none⟩) 2 2] 25)
    rwa [World.size_alloc] at this
  have e7 : W3.heap[W1.heap.size + 1 + 1]? = some (.cells #[.int .i64 3] 3 (0, 0)) := by
    rw [← hW3]
    have := World.alloc_heap_new ((W1.alloc (.cells #[.int .i64 0] 3)).alloc (.cells #[.slice (some ⟨B, 0, none⟩) 2 2] 25)) (.cells #[.int .i64 3] 3)
    rwa [World.size_alloc, World.size_alloc] at this
  have hb13 : Below W1.heap.size W1 W3 := by
    rw [← hW3]
    exact (((Below.refl _ W1).alloc (Nat.le_refl _) _).alloc (by simp) _).alloc (by simp; omega) _
  have hb03 : Below W0.heap.size W0 W3 := hb1.trans (hb13.mono hs01)
  have e4 : W3.heap[w.heap.size]? = some (.cells #[.bool false] 4 (0, 0)) := (hb03.block _ (by omega)).trans hv0
  have eB : W3.heap[B]? = some (.cells evV 23 (0, 0)) := (hb03.block _ (by omega)).trans ((hb0.block B hBl).trans hB)
  have hbw3 : Below w.heap.size w W3 := hb0.trans (hb03.mono (by omega))
  rw [hW3]
  refine rangeFunc0 (gf := 19) (lb := #[.pointer (some ⟨W1.heap.size + 1, 0, none⟩), .pointer (some ⟨W1.heap.size + 1 + 1, 0, none⟩)]) h1 rfl (enters_of Try.func19 (by kernel_rfl) rfl) ?_ ?_
  · intro l W4 hb4
    exact parts0 (n - 1) l B (W1.heap.size + 1) (W1.heap.size + 1 + 1) W4 ((hb4.block _ (by omega)).trans eB) ((hb4.block _ (by omega)).trans e6) ((hb4.block _ (by omega)).trans e7)
  · intro W D hbW hD hK
    have c5 : W.heap[W1.heap.size]? = some (.cells #[.int .i64 0] 3 (0, 0)) := (hbW.block _ (by omega)).trans e5
    have c4 : W.heap[w.heap.size]? = some (.cells #[.bool false] 4 (0, 0)) := (hbW.block _ (by omega)).trans e4
    have k5 : W.cell? ⟨W1.heap.size, 0, none⟩ = some (.int .i64 0) := by simp [World.cell?, c5]
    have k4 : W.cell? ⟨w.heap.size, 0, none⟩ = some (.bool false) := by simp [World.cell?, c4]
    have f4 : W.frozen? ⟨w.heap.size, 0, none⟩ = false := by simp [World.frozen?, c4]
    have hbw' : Below w.heap.size w W := hbw3.trans (hbW.mono (by omega))
    clear hW3 hW0
    gi_wp2
    obtain ⟨W5, hW5⟩ : ∃ W5, W.setCell ⟨w.heap.size, 0, none⟩ (.bool false) = W5 := ⟨_, rfl⟩
    have g5 : W.grownBy W5 (some w.heap.size) := by
      rw [← hW5]
      exact ⟨rfl, rfl, rfl, (KeepsWalks.setCell W _ _).size, fun k _ hk => Below.heap_setCell _ _ _ k (fun e => hk (by rw [e]))⟩
    have hK5 : W5.heap[D]? = some (.deferred (some [])) := (g5.block D (Array.getElem?_eq_some_iff.1 hK).1 (fun e => by cases e; omega)).trans hK
    have v5 : W5.heap[w.heap.size]? = some (.cells #[.bool false] 4 (0, 0)) := by
      rw [← hW5]
      obtain ⟨hlt, hk'⟩ := Array.getElem?_eq_some_iff.1 c4
      show (W.heap.modify w.heap.size _)[w.heap.size]? = _
      rw [Array.getElem?_eq_getElem (by rw [Array.size_modify]; exact hlt), Array.getElem_modify_self, hk']
      rfl
    have b5 : Below w.heap.size w W5 := hbw'.grown g5 hbw'.size (fun k e => by cases e; omega)
    rw [hW5]
    refine ⟨by simp, .inl ⟨_, _, rfl, run_takeDeferred hK5, ?_⟩⟩
    have v6 : (W5.putObj D (.deferred none)).cell? ⟨w.heap.size, 0, none⟩ = some (.bool false) := by
      have := (World.putObj_heap_other (w := W5) (o := .deferred none) (show w.heap.size ≠ D by omega)).trans v5
      simp [World.cell?, this]
    refine ⟨.bool false, ?_, rfl, b5.grown (grownBy_putObj' W5 _ _) b5.size (fun k e => by cases e; omega)⟩
    have hres : Try.f8.results = #[.cell 4 4] := rfl
    have ha : (isAgg 4).run Try.prog (W5.putObj D (.deferred none)) = .ok false (W5.putObj D (.deferred none)) := run_isAgg_plain Try.underlying4 rfl _
    have had : (asAddr (.pointer (some ⟨w.heap.size, 0, none⟩))).run Try.prog (W5.putObj D (.deferred none)) = .ok ⟨w.heap.size, 0, none⟩ (W5.putObj D (.deferred none)) := rfl
    simp [results, hres, loadVar, ha, v6, Sem.run_bind, had]
end Go.Proofs.Ytngemikgnlgjcaa.V
