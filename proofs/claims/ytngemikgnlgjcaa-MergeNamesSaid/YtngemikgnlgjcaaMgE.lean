/- merge: the chapter's names (part 5): Alone's round, one event more. -/
import Derived.Test.YtngemikgnlgjcaaMgD
import Derived.Deep.MidRow
namespace Go.Proofs.Ytngemikgnlgjcaa.V
open Go Go.Proofs Go.RowKit Go.Shelf
set_option maxRecDepth 100000
set_option maxHeartbeats 2000000
set_option linter.unusedSimpArgs false
set_option linter.unusedVariables false
def alAssign : Code := (Code.region 5
        #[{ dst := some 6, op := Op.alloc 23, type := 0, pos := "merge.go:42", after := #[], guard := none },
          { dst := none, op := Op.store 23 (Operand.tmp 6) (Operand.tmp 13), type := 0, pos := "merge.go:42",
            after := #[{ on := 0, ground := Ground.data }, { on := 0, ground := Ground.phase }], guard := none }]
        false)
def alBody : Code := (Code.block 1
        (((Code.region 6
                  #[{ dst := some 14, op := Op.fieldAddr 23 (Operand.tmp 6) 2, type := 0, pos := "merge.go:43",
                      after := #[], guard := none },
                    { dst := some 15, op := Op.load 2 (Operand.tmp 14), type := 2, pos := "merge.go:43",
                      after := #[{ on := 0, ground := Ground.data }], guard := none },
                    { dst := some 16, op := Op.load 3 (Operand.tmp 5), type := 3, pos := "merge.go:43", after := #[],
                      guard := none },
                    { dst := some 17, op := Op.binOp BinOp.neq 2 (Operand.tmp 15) (Operand.tmp 16) 2, type := 4,
                      pos := "merge.go:43",
                      after := #[{ on := 1, ground := Ground.data }, { on := 2, ground := Ground.data }],
                      guard := none }]
                  false).seq
              (Code.cond (Operand.tmp 17)
                ((Code.region 7
                      #[{ dst := none, op := Op.store 4 (Operand.tmp 4) (Operand.const (Value.bool false)), type := 0,
                          pos := "merge.go:44", after := #[], guard := none }]
                      false).seq
                  Code.ret)
                Code.skip)).seq
          (Code.region 8
            #[{ dst := some 18, op := Op.load 3 (Operand.tmp 5), type := 3, pos := "merge.go:46", after := #[],
                guard := none },
              { dst := some 19, op := Op.binOp BinOp.add 3 (Operand.tmp 18) (Operand.const (Value.int IntKind.i64 1)) 3,
                type := 3, pos := "merge.go:46", after := #[{ on := 0, ground := Ground.data }], guard := none },
              { dst := none, op := Op.store 3 (Operand.tmp 5) (Operand.tmp 19), type := 0, pos := "merge.go:46",
                after :=
                  #[{ on := 1, ground := Ground.data }, { on := 0, ground := Ground.phase },
                    { on := 1, ground := Ground.phase }],
                guard := none }]
            false)))
/-- Alone's temporaries as they stand where the loop is entered. -/
def alTmps (B R4 N s1 s2 : Nat) (e : Value) : Array Value :=
  #[.slice (some ⟨B, 0, none⟩) 2 2, .int .i64 1, undef, undef, .pointer (some ⟨R4, 0, none⟩), .pointer (some ⟨N, 0, none⟩), undef, .slice (some ⟨B, 0, none⟩) 2 2, .int .i64 0, .bool false, .slice (some ⟨B, 0, none⟩) 2 2, .int .i64 1,
    .func (.func 19) #[] #[.pointer (some ⟨s1, 0, none⟩), .pointer (some ⟨s2, 0, none⟩)], e, undef, undef, undef, undef, undef, undef, undef, undef, undef, undef]
def alRec (fn : FuncId) (B R4 N s1 s2 D : Nat) : Loop :=
  { state := .ready, pending := none, fn, tmps := alTmps B R4 N s1 s2 undef, params := #[13], assign := alAssign, body := alBody, defers := D }
/-- Between two rounds. -/
structure AlAt (w0 : World) (fn : FuncId) (B s1 s2 N R4 l D : Nat) (k : Int) (W : World) : Prop where
  hB : W.heap[B]? = some (.cells evV 23 (0, 0))
  h1 : W.heap[s1]? = some (.cells #[.slice (some ⟨B, 0, none⟩) 2 2] 25 (0, 0))
  h2 : W.heap[s2]? = some (.cells #[.int .i64 1] 3 (0, 0))
  hN : W.heap[N]? = some (.cells #[.int .i64 k] 3 (0, 0))
  hR : W.heap[R4]? = some (.cells #[.bool false] 4 (0, 0))
  L : W.heap[l]? = some (.loop (alRec fn B R4 N s1 s2 D))
  K : W.heap[D]? = some (.deferred (some []))
  below : Below w0.heap.size w0 W
theorem AlAt.keep {w0 : World} {fn : FuncId} {B s1 s2 N R4 l D : Nat} {k : Int} {W W' : World} (h : AlAt w0 fn B s1 s2 N R4 l D k W) (hb : Below W.heap.size W W') : AlAt w0 fn B s1 s2 N R4 l D k W' := by
  have lt : ∀ {b : Nat} {o : Obj}, W.heap[b]? = some o → W'.heap[b]? = some o := fun e => (hb.block _ (Array.getElem?_eq_some_iff.1 e).1).trans e
  exact ⟨lt h.hB, lt h.h1, lt h.h2, lt h.hN, lt h.hR, lt h.L, lt h.K, h.below.trans (hb.mono h.below.size)⟩
def alEv (t q : Int) : Value := .agg #[.int .i64 t, .int .i64 1, .int .i64 q, .int .i64 1, .int .i64 0, .int .i64 0]
theorem alYield (m : Nat) (w0 : World) (fn : FuncId) (B s1 s2 N R4 l D : Nat) (t k : Int) (W : World) (hd : N ≠ l ∧ N ≠ D ∧ N ≠ R4 ∧ N ≠ B ∧ N ≠ s1 ∧ N ≠ s2 ∧ l ≠ D ∧ l ≠ R4 ∧ l ≠ B ∧ l ≠ s1 ∧ l ≠ s2) (hn : w0.heap.size ≤ N) (hl0 : w0.heap.size ≤ l) (hk : 0 ≤ k ∧ k < 100)
    (h : AlAt w0 fn B s1 s2 N R4 l D k W) :
    YieldAt Fence.wide m Try.prog l #[alEv t k] W fun e W' => e = .returned (.bool true) ∧ AlAt w0 fn B s1 s2 N R4 l D (k + 1) W' := by
  obtain ⟨d1, d2, d3, d4, d5, d6, d7, d8, d9, d10, d11⟩ := hd
  refine ⟨fn, alTmps B R4 N s1 s2 (alEv t k), alAssign, alBody, by simpa [alRec, alTmps] using run_yield (P := Try.prog) (args := #[alEv t k]) h.L rfl, roundIn_of_wpIn trivial ?_⟩
  have hl : l < W.heap.size := (Array.getElem?_eq_some_iff.1 h.L).1
  unfold alAssign alTmps alEv
  gi_wp2_with (rw [Oper.semAt_eq _ _ _ (fun c h => by cases h)]; go_simp; try go_bits)
  obtain ⟨W1, hW1⟩ : ∃ W1, W.alloc (.cells #[.int .i64 t, .int .i64 1, .int .i64 k, .int .i64 1, .int .i64 0, .int .i64 0] 23) = W1 := ⟨_, rfl⟩
  have hb1 : Below W.heap.size W W1 := by rw [← hW1]; exact (Below.refl _ W).alloc (Nat.le_refl _) _
  have q1 := h.keep hb1
  have e1 : W1.heap[W.heap.size]? = some (.cells #[.int .i64 t, .int .i64 1, .int .i64 k, .int .i64 1, .int .i64 0, .int .i64 0] 23 (0, 0)) := by rw [← hW1]; exact World.alloc_heap_new W _
  rw [hW1]
  clear hW1
  have hl1 : l < W1.heap.size := (Array.getElem?_eq_some_iff.1 q1.L).1
  have hbr := run_beginRound (P := Try.prog) q1.L rfl
  obtain ⟨W2, hW2⟩ : ∃ W2, W1.putObj l (.loop { alRec fn B R4 N s1 s2 D with state := .busy }) = W2 := ⟨_, rfl⟩
  rw [hW2] at hbr
  have ot : ∀ {b : Nat} {o : Obj}, b ≠ l → W1.heap[b]? = some o → W2.heap[b]? = some o := fun hne e => by rw [← hW2]; exact (World.putObj_heap_other hne).trans e
  have e2 := ot (by omega) e1
  have hN2 := ot d1 q1.hN
  have hL2 : W2.heap[l]? = some (.loop { alRec fn B R4 N s1 s2 D with state := .busy }) := by rw [← hW2]; exact World.putObj_heap_same hl1
  have hb2 : Below w0.heap.size w0 W2 := by rw [← hW2]; exact q1.below.grown (grownBy_putObj' W1 _ _) q1.below.size (fun k e => by cases e; exact hl0)
  have hB2 := ot (Ne.symm d9) q1.hB
  have h12 := ot (Ne.symm d10) q1.h1
  have h22 := ot (Ne.symm d11) q1.h2
  have hR2 := ot (Ne.symm d8) q1.hR
  have hK2 := ot (Ne.symm d7) q1.K
  clear hW2
  have c2 : W2.cell? ⟨W.heap.size, 2, none⟩ = some (.int .i64 k) := by simp [World.cell?, e2]
  have cN : W2.cell? ⟨N, 0, none⟩ = some (.int .i64 k) := by simp [World.cell?, hN2]
  have fN : W2.frozen? ⟨N, 0, none⟩ = false := by simp [World.frozen?, hN2]
  have hWl : W.heap.size < W2.heap.size := (Array.getElem?_eq_some_iff.1 e2).1
  refine ⟨W2, hbr, ?_⟩
  unfold alBody
  gi_wp2_with (rw [Oper.semAt_eq _ _ _ (fun c h => by cases h)]; go_simp; try go_bits)
  obtain ⟨W3, hW3⟩ : ∃ W3, W2.setCell ⟨N, 0, none⟩ (.int .i64 (k + 1)) = W3 := ⟨_, rfl⟩
  have g3 : W2.grownBy W3 (some N) := by
    rw [← hW3]
    exact ⟨rfl, rfl, rfl, (KeepsWalks.setCell W2 _ _).size, fun k _ hk => Below.heap_setCell _ _ _ k (fun e => hk (by rw [e]))⟩
  have ot3 : ∀ {b : Nat} {o : Obj}, b ≠ N → W2.heap[b]? = some o → W3.heap[b]? = some o := fun hne e => by rw [← hW3]; exact (Below.heap_setCell W2 ⟨N, 0, none⟩ _ _ hne).trans e
  have hN3 : W3.heap[N]? = some (.cells #[.int .i64 (k + 1)] 3 (0, 0)) := by
    rw [← hW3]
    obtain ⟨hlt, hk'⟩ := Array.getElem?_eq_some_iff.1 hN2
    show (W2.heap.modify N _)[N]? = _
    rw [Array.getElem?_eq_getElem (by rw [Array.size_modify]; exact hlt), Array.getElem_modify_self, hk']
    rfl
  have hL3 := ot3 (Ne.symm d1) hL2
  have hb3 : Below w0.heap.size w0 W3 := hb2.grown g3 hb2.size (fun k e => by cases e; exact hn)
  have hB3 := ot3 (Ne.symm d4) hB2
  have h13 := ot3 (Ne.symm d5) h12
  have h23 := ot3 (Ne.symm d6) h22
  have hR3 := ot3 (Ne.symm d3) hR2
  have hK3 := ot3 (Ne.symm d2) hK2
  rw [hW3]
  clear hW3
  have hl3 : l < W3.heap.size := (Array.getElem?_eq_some_iff.1 hL3).1
  have ot4 : ∀ {b : Nat} {o o' : Obj}, b ≠ l → W3.heap[b]? = some o → (W3.putObj l o').heap[b]? = some o := fun hne e => (World.putObj_heap_other hne).trans e
  exact ⟨_, _, run_endRound none hL3, rfl, ot4 (Ne.symm d9) hB3, ot4 (Ne.symm d10) h13, ot4 (Ne.symm d11) h23, ot4 d1 hN3, ot4 (Ne.symm d8) hR3, World.putObj_heap_same hl3, ot4 (Ne.symm d7) hK3, hb3.grown (grownBy_putObj' W3 _ _) hb3.size (fun k e => by cases e; exact hl0)⟩
/-- The iterator, both events yielded. -/
theorem parts1 (n l B s1 s2 : Nat) (J : Int → World → Prop) (W : World) (hJ : ∀ k V, J k V → V.heap[B]? = some (.cells evV 23 (0, 0)) ∧ V.heap[s1]? = some (.cells #[.slice (some ⟨B, 0, none⟩) 2 2] 25 (0, 0)) ∧ V.heap[s2]? = some (.cells #[.int .i64 1] 3 (0, 0)))
    (hJ2 : ∀ k V V', J k V → Below V.heap.size V V' → J k V')
    (hY : ∀ t k V, 0 ≤ k ∧ k < 100 → J k V → YieldAt Fence.wide (n - 1) Try.prog l #[alEv t k] V fun e V' => e = .returned (.bool true) ∧ J (k + 1) V') (h0 : J 0 W) :
    CallsIn Fence.wide n Try.prog 19 #[.func (.yield l) #[] #[], .pointer (some ⟨s1, 0, none⟩), .pointer (some ⟨s2, 0, none⟩)] W fun e W' => (∃ v, e = .returned v) ∧ J 2 W' := by
  have fact : ∀ k V, J k V → V.cell? ⟨s1, 0, none⟩ = some (.slice (some ⟨B, 0, none⟩) 2 2) ∧ V.cell? ⟨s2, 0, none⟩ = some (.int .i64 1) ∧ B < V.heap.size ∧ s1 < V.heap.size ∧ s2 < V.heap.size ∧
      V.cell? ⟨B, 0, none⟩ = some (.int .i64 3) ∧ V.cell? ⟨B, 1, none⟩ = some (.int .i64 1) ∧ V.cell? ⟨B, 2, none⟩ = some (.int .i64 0) ∧ V.cell? ⟨B, 3, none⟩ = some (.int .i64 1) ∧ V.cell? ⟨B, 4, none⟩ = some (.int .i64 0) ∧ V.cell? ⟨B, 5, none⟩ = some (.int .i64 0) ∧
      V.cell? ⟨B, 6, none⟩ = some (.int .i64 9) ∧ V.cell? ⟨B, 7, none⟩ = some (.int .i64 1) ∧ V.cell? ⟨B, 8, none⟩ = some (.int .i64 1) ∧ V.cell? ⟨B, 9, none⟩ = some (.int .i64 1) ∧ V.cell? ⟨B, 10, none⟩ = some (.int .i64 0) ∧ V.cell? ⟨B, 11, none⟩ = some (.int .i64 0) := by
    intro k V h
    obtain ⟨hB, h1, h2⟩ := hJ k V h
    exact ⟨by simp [World.cell?, h1], by simp [World.cell?, h2], (Array.getElem?_eq_some_iff.1 hB).1, (Array.getElem?_eq_some_iff.1 h1).1, (Array.getElem?_eq_some_iff.1 h2).1,
      by simp [World.cell?, hB, evV], by simp [World.cell?, hB, evV], by simp [World.cell?, hB, evV], by simp [World.cell?, hB, evV], by simp [World.cell?, hB, evV], by simp [World.cell?, hB, evV],
      by simp [World.cell?, hB, evV], by simp [World.cell?, hB, evV], by simp [World.cell?, hB, evV], by simp [World.cell?, hB, evV], by simp [World.cell?, hB, evV], by simp [World.cell?, hB, evV]⟩
  refine callsIn_of_wp Try.func19 rfl trivial ?_ rfl
  simp only [Try.ntmps19, List.size_toArray, List.length_cons, List.length_nil, Nat.reduceAdd, Nat.reduceSub, Array.replicate_succ, Array.replicate_zero, List.push_toArray, List.append_toArray, List.nil_append, List.cons_append]
  obtain ⟨c1, c2, hBl, h1l, h2l, d0, d1, d2, d3, d4, d5, d6, d7, d8, d9, d10, d11⟩ := fact 0 W h0
  gi_wp2
  refine wpIn_loop_rounds 3 ?_
  rw [roundsIn_succ]
  have j1 : J 0 (W.alloc (.cells #[.int .i64 3, .int .i64 1, .int .i64 0, .int .i64 1, .int .i64 0, .int .i64 0] 23)) := hJ2 _ _ _ h0 ((Below.refl _ W).alloc (Nat.le_refl _) _)
  obtain ⟨fn, tmps, assign, body, hy, hR⟩ := hY 3 0 _ (by decide) j1
  unfold alEv at hy
  gi_wp2
  refine ⟨(fun h => nomatch h), hR.mono ?_⟩
  rintro e W1 ⟨rfl, q1⟩
  clear hR hy j1 c1 c2 d0 d1 d2 d3 d4 d5 d6 d7 d8 d9 d10 d11 hBl h1l h2l h0
  obtain ⟨c1, c2, hBl, h1l, h2l, d0, d1, d2, d3, d4, d5, d6, d7, d8, d9, d10, d11⟩ := fact _ W1 q1
  gi_wp2
  rw [roundsIn_succ]
  have j2 : J (0 + 1) (W1.alloc (.cells #[.int .i64 9, .int .i64 1, .int .i64 1, .int .i64 1, .int .i64 0, .int .i64 0] 23)) := hJ2 _ _ _ q1 ((Below.refl _ W1).alloc (Nat.le_refl _) _)
  obtain ⟨fn, tmps, assign, body, hy, hR⟩ := hY 9 (0 + 1) _ (by decide) j2
  have e01 : ((0 : Int) + 1) = 1 := rfl
  rw [e01] at hy hR q1 j2
  unfold alEv at hy
  gi_wp2
  refine ⟨(fun h => nomatch h), hR.mono ?_⟩
  rintro e W2 ⟨rfl, q2⟩
  clear hR hy j2 c1 c2 d0 d1 d2 d3 d4 d5 d6 d7 d8 d9 d10 d11 hBl h1l h2l q1
  gi_wp2
  rw [roundsIn_succ]
  gi_wp2
  go_end0
  exact ⟨⟨_, rfl⟩, q2⟩
end Go.Proofs.Ytngemikgnlgjcaa.V
