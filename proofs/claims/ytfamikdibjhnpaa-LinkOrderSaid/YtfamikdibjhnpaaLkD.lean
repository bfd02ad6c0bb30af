/- link: what is known ahead (part 3): Check answers one thing or the other. link: what is sent and taken (part 1): states of the law's loop. -/
import Derived.Test.YtfamikdibjhnpaaLkW
import Derived.Test.YtfamikdibjhnpaaV10
namespace Go.Proofs.Ytfamikdibjhnpaa.V
open Go Go.Proofs
set_option maxRecDepth 100000
set_option linter.unusedSimpArgs false
set_option linter.unusedVariables false
theorem ckOut_sc {k : Int} (t c h b p v : Int) (hk : k < 1 ∨ 6 < k) : SC Try.prog 9 [.agg [.int .i64 k, .int .i64 t, .int .i64 c, .int .u8 h, .int .i64 b, .int .i64 p, .int .u8 v]] h0 (fun u _ => u = .int .i64 0 ∨ u = .int .i64 2) := by
  refine walk (Good.nil mixedlives) Try.func9 rfl (by simp [Try.ntmps9]) (by kernel_rfl) ?_
  by_cases h1 : k < 1
  · simp [Try.ntmps9, Try.results9, h0, h1]
  · have h2 : 6 < k := by omega
    simp [Try.ntmps9, Try.results9, h0, h1, h2]
theorem ck1_sc (t c h b p v : Int) : SC Try.prog 9 [.agg [.int .i64 1, .int .i64 t, .int .i64 c, .int .u8 h, .int .i64 b, .int .i64 p, .int .u8 v]] h0 (fun u _ => u = .int .i64 0 ∨ u = .int .i64 2) := by
  refine sc_of_vc XCk_ok (by kernel_rfl) (ck1_vc t c h b p v _) ?_
  unfold ck1_VC
  by_cases h1 : t < 0
  · simp [h1]
  by_cases h2 : t > 1099511627776
  · simp [h1, h2]
  cases hg : g2 1 t c h b p v <;> simp [h1, h2, hg]
theorem ck2_sc (t c h b p v : Int) : SC Try.prog 9 [.agg [.int .i64 2, .int .i64 t, .int .i64 c, .int .u8 h, .int .i64 b, .int .i64 p, .int .u8 v]] h0 (fun u _ => u = .int .i64 0 ∨ u = .int .i64 2) := by
  refine sc_of_vc XCk_ok (by kernel_rfl) (ck2_vc t c h b p v _) ?_
  unfold ck2_VC
  by_cases h1 : t < 0
  · simp [h1]
  by_cases h2 : t > 1099511627776
  · simp [h1, h2]
  cases hg : g3 2 t c h b p v <;> simp [h1, h2, hg]
theorem ck3_sc (t c h b p v : Int) : SC Try.prog 9 [.agg [.int .i64 3, .int .i64 t, .int .i64 c, .int .u8 h, .int .i64 b, .int .i64 p, .int .u8 v]] h0 (fun u _ => u = .int .i64 0 ∨ u = .int .i64 2) := by
  refine sc_of_vc XCk_ok (by kernel_rfl) (ck3_vc t c h b p v _) ?_
  unfold ck3_VC
  by_cases h1 : t < 0
  · simp [h1]
  by_cases h2 : t > 1099511627776
  · simp [h1, h2]
  cases hg : g4 3 t c h b p v <;> simp [h1, h2, hg]
theorem ck4_sc (t c h b p v : Int) : SC Try.prog 9 [.agg [.int .i64 4, .int .i64 t, .int .i64 c, .int .u8 h, .int .i64 b, .int .i64 p, .int .u8 v]] h0 (fun u _ => u = .int .i64 0 ∨ u = .int .i64 2) := by
  refine sc_of_vc XCk_ok (by kernel_rfl) (ck4_vc t c h b p v _) ?_
  unfold ck4_VC
  by_cases h1 : t < 0
  · simp [h1]
  by_cases h2 : t > 1099511627776
  · simp [h1, h2]
  cases hg : g1 4 t c h b p v <;> simp [h1, h2, hg]
theorem ck5_sc (t c h b p v : Int) : SC Try.prog 9 [.agg [.int .i64 5, .int .i64 t, .int .i64 c, .int .u8 h, .int .i64 b, .int .i64 p, .int .u8 v]] h0 (fun u _ => u = .int .i64 0 ∨ u = .int .i64 2) := by
  refine sc_of_vc XCk_ok (by kernel_rfl) (ck5_vc t c h b p v _) ?_
  unfold ck5_VC
  by_cases h1 : t < 0
  · simp [h1]
  by_cases h2 : t > 1099511627776
  · simp [h1, h2]
  cases hg : g1 5 t c h b p v <;> simp [h1, h2, hg]
theorem ck6_sc (t c h b p v : Int) : SC Try.prog 9 [.agg [.int .i64 6, .int .i64 t, .int .i64 c, .int .u8 h, .int .i64 b, .int .i64 p, .int .u8 v]] h0 (fun u _ => u = .int .i64 0 ∨ u = .int .i64 2) := by
  refine sc_of_vc XCk_ok (by kernel_rfl) (ck6_vc t c h b p v _) ?_
  unfold ck6_VC
  by_cases h1 : t < 0
  · simp [h1]
  by_cases h2 : t > 1099511627776
  · simp [h1, h2]
  cases hg : g5 6 t c h b p v <;> simp [h1, h2, hg]
theorem ck_sc (k t c h b p v : Int) : SC Try.prog 9 [.agg [.int .i64 k, .int .i64 t, .int .i64 c, .int .u8 h, .int .i64 b, .int .i64 p, .int .u8 v]] h0 (fun u _ => u = .int .i64 0 ∨ u = .int .i64 2) := by
  by_cases h1 : k = 1
  · subst h1; exact ck1_sc _ _ _ _ _ _
  by_cases h2 : k = 2
  · subst h2; exact ck2_sc _ _ _ _ _ _
  by_cases h3 : k = 3
  · subst h3; exact ck3_sc _ _ _ _ _ _
  by_cases h4 : k = 4
  · subst h4; exact ck4_sc _ _ _ _ _ _
  by_cases h5 : k = 5
  · subst h5; exact ck5_sc _ _ _ _ _ _
  by_cases h6 : k = 6
  · subst h6; exact ck6_sc _ _ _ _ _ _
  exact ckOut_sc t c h b p v (by omega)
theorem SC.anyP {P : Program} {f : Nat} {args : List AV} {Q : AV → Prop} (hp : pfs args = true) (hv : ∀ u, Q u → u.pf = true) (h : SC P f args h0 (fun u _ => Q u)) (σ : AH) : SC P f args σ (fun u τ => Q u ∧ τ = σ) := by
  intro ρ args' w ha hr
  refine Calls.mono (h _ args' w (ha.pf hp) (HR.empty w)) ?_
  rintro e w' ⟨u, v', ρ', σ', rfl, hq, hvr, hr', hs⟩
  have old : ∀ c, c < w.heap.size → w'.heap[c]? = w.heap[c]? := fun c hc => hs.frame c hc (by rintro ⟨b, r, h1, _⟩; simp at h1)
  refine ⟨u, v', ρ, σ, rfl, ⟨hq, rfl⟩, hvr.pf (hv u hq), ⟨hr.dom, fun b r hb => Nat.lt_of_lt_of_le (hr.lt b r hb) hs.size, fun b r hb => OR.of_heap (old _ (hr.lt b r hb)) (hr.obj b r hb), hr.inj⟩, ?_⟩
  exact ⟨fun _ _ => rfl, Nat.le_refl _, hs.os, hs.tape, hs.output, hs.size, fun c hc _ => old c hc, fun c hc => .inl hc⟩
/-- One thing or the other may come. -/
def bothK (s : Plan) (A B : Plan → Prop) : Prop := match s with
  | .b x y => A x ∧ B y
  | s => A s ∧ B s
theorem bothK_ok {s : Plan} {A B : Plan → Prop} (h : bothK s A B) : (∃ s, A s) ∧ ∃ s, B s := by
  unfold bothK at h
  split at h
  · exact ⟨⟨_, h.1⟩, ⟨_, h.2⟩⟩
  · exact ⟨⟨_, h.1⟩, ⟨_, h.2⟩⟩
/-- Check, as a way: it answers 0, or it answers 2. -/
def ckTr : Tr1 := fun xs σ s K => match xs with
  | [.agg [.int .i64 k, .int .i64 t, .int .i64 c, .int .u8 h, .int .i64 b, .int .i64 p, .int .u8 v]] => bothK s (fun s => K (.int .i64 0) σ s) (fun s => K (.int .i64 2) σ s)
  | _ => False
theorem ckTr_ok : TrOk Try.prog 9 ckTr := by
  intro xs σ s K e
  unfold ckTr at e
  split at e
  · rename_i k t c h b p v
    obtain ⟨⟨s0, e0⟩, ⟨s2, e2⟩⟩ := bothK_ok e
    refine (SC.anyP (Q := fun u => u = .int .i64 0 ∨ u = .int .i64 2) rfl (fun u hu => by rcases hu with rfl | rfl <;> rfl) (ck_sc k t c h b p v) σ).mono ?_
    rintro u τ ⟨rfl | rfl, rfl⟩
    · exact ⟨s0, e0⟩
    · exact ⟨s2, e2⟩
  · exact e.elim
end Go.Proofs.Ytfamikdibjhnpaa.V
namespace Go.Proofs.Ytfamikdibjhnpaa.V
open Go Go.Proofs
set_option maxRecDepth 100000
set_option linter.unusedSimpArgs false
set_option linter.unusedVariables false
noncomputable def withT (f : Nat) (T : Tr1) (base : Trs) : Trs := fun g => if Nat.beq g f = true then some T else base g
theorem withT_ok {P : Program} {f : Nat} {T : Tr1} {base : Trs} (h : TrOk P f T) (hb : TrsOk P base) : TrsOk P (withT f T base) := by
  intro g T' e
  unfold withT at e
  split at e
  · rename_i hk
    cases e
    rw [Nat.eq_of_beq_eq_true hk]
    exact h
  · exact hb g T' e
def okRo : List Nat := [7, 8, 10, 11, 17, 19]
theorem okRo_ok : okFunsX Try.prog okRo = true := by kernel_rfl
noncomputable def XRo : Cx := ⟨Try.prog, inl Try.prog (purO []) [] 20 (withT 9 ckTr (purT [])) okRo 6, purO [], [17, 7], 20, lookL []⟩
theorem XRo_ok : CxOk XRo := ⟨inl_ok (purO_ok PurOk.nil) mixedlives (withT_ok ckTr_ok (purT_ok PurOk.nil)) okRo_ok 6, purO_ok PurOk.nil, mixedlives⟩
/-- States of the loop; in and out are nil, or rows of so many messages. -/
def lkObj (n : Nat) (fr ct mk : Int) (en : Bool) : AObj := .cells 42 [.slice 2 0 n (some n), .int .i64 fr, .int .i64 ct, .int .i64 mk, .bool en]
def lo0 (n : Nat) (fr ct mk : Int) (en : Bool) (rc : List AV) (lv tv : AV) (m : List (Nat × AObj)) (i : Int) : AF × AH := (⟨162, [(1, lv), (2, tv), (7, .int .i64 (n : Int)), (8, .ptr 3 0), (10, .nilslice), (11, .nilslice), (12, .int .i64 i)]⟩, ⟨6, (3, lkObj n fr ct mk en) :: (2, .cells 33 rc) :: m⟩)
def lo1 (n : Nat) (fr ct mk : Int) (en : Bool) (rc : List AV) (lv tv : AV) (m : List (Nat × AObj)) (i : Int) (ni : Nat) (ic : List AV) : AF × AH := (⟨162, [(1, lv), (2, tv), (7, .int .i64 (n : Int)), (8, .ptr 3 0), (10, .slice 4 0 ni none), (11, .nilslice), (12, .int .i64 i)]⟩, ⟨6, (4, .opn 33 7 ic) :: (3, lkObj n fr ct mk en) :: (2, .cells 33 rc) :: m⟩)
def lo2 (n : Nat) (fr ct mk : Int) (en : Bool) (rc : List AV) (lv tv : AV) (m : List (Nat × AObj)) (i : Int) (ni : Nat) (ic : List AV) (no : Nat) (oc : List AV) : AF × AH := (⟨162, [(1, lv), (2, tv), (7, .int .i64 (n : Int)), (8, .ptr 3 0), (10, .slice 4 0 ni none), (11, .slice 5 0 no none), (12, .int .i64 i)]⟩, ⟨6, (5, .opn 33 7 oc) :: (4, .opn 33 7 ic) :: (3, lkObj n fr ct mk en) :: (2, .cells 33 rc) :: m⟩)
/-- The two rows that are read: messages, and when one is taken. -/
def mT (lc tc : List AV) : List (Nat × AObj) := [(1, .ro tc), (0, .ro lc)]
def mN (lc : List AV) : List (Nat × AObj) := [(0, .ro lc)]
end Go.Proofs.Ytfamikdibjhnpaa.V
