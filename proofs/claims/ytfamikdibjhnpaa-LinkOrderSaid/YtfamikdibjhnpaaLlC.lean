/- link: what is sent and taken (part 12): the law. link: what is sent and taken (part 13): the law's arguments. -/
import Derived.Test.YtfamikdibjhnpaaLlV
import Derived.Test.YtfamikdibjhnpaaV26
namespace Go.Proofs.Ytfamikdibjhnpaa.V
open Go Go.Proofs
set_option maxRecDepth 100000
set_option maxHeartbeats 4000000
set_option linter.unusedSimpArgs false
set_option linter.unusedVariables false
def lkFin (e : Exit) (fr : AF) (σ : AH) : Prop := e = .ret ∧ fr = ⟨162, [(6, .bool true)]⟩ ∧ σ = ⟨2, []⟩
theorem objDead {g : Nat → Option Nat} {o : AObj} : ObjRen g o .dead := by cases o <;> trivial
theorem fin_of {n0 : Nat} (hn : n0 ≤ 2) {sl : List Nat} {n : Nat} {vs : List (Option AV)} {σ : AH} (h6 : lookS sl vs 6 = some (.bool true)) (he : n = 162) : ∃ gs fr' σ', FitsS n0 gs sl n vs σ fr' σ' ∧ lkFin .ret fr' σ' := by
  subst he
  refine ⟨[(0, 0), (1, 1)], ⟨162, [(6, .bool true)]⟩, ⟨2, []⟩, ⟨?_, ⟨objDead, objDead, trivial⟩, rfl, ⟨?_, trivial⟩⟩, rfl, rfl, rfl⟩
  · rcases (show n0 = 0 ∨ n0 = 1 ∨ n0 = 2 by omega) with rfl | rfl | rfl <;> rfl
  · rw [h6]; rfl
theorem rows_eq {n b : Nat} {x : LkX} (hx : Inv n b x) : rowsOf n x.fr x.rc (x.il.length - x.ol.length) = x.il.drop x.ol.length := by
  apply List.ext_getElem
  · simp [rowsOf]
  · intro j h1 h2
    have hj : j < x.il.length - x.ol.length := by simpa [rowsOf] using h1
    have := hx.row j hj
    simp only [rowsOf, List.getElem_map, List.getElem_range, List.getElem_drop]
    rw [this, List.getD_eq_getElem?_getD, List.getElem?_eq_getElem (by omega)]
    rfl
theorem tail_ok {n0 n b : Nat} (h2 : n0 ≤ 2) {x : LkX} (hx : Inv n b x) (hb : b ≤ 100) {lc : List AV} {a1 : AObj} : WP Try.prog n0 lkTail lkFin (frT (sO 4 x.il) (sO 5 x.ol)) (hpR n x.fr x.ct x.mt x.en x.rc lc a1 (oO x.il) (oO x.ol)) := by
  have hole := hx.ole
  have hib := hx.ib
  have hn0 := hx.n0
  have hok := hx.ok
  have hrow := rows_eq hx
  have hol := hx.ol
  by_cases hi0 : x.il = []
  · have ho0 : x.ol = [] := List.length_eq_zero_iff.1 (by rw [hi0] at hole; simpa using hole)
    have hc : x.ct = Int.ofNat 0 := by unfold LkX.ct; rw [hi0, ho0]; rfl
    rw [hc] at hok ⊢
    rw [hi0, ho0]
    refine segQ (s := tNN_scr) (A := fun N Q => tNN_VC n0 n x.fr x.mt x.en x.rc lc a1 .dead .dead N Q ()) XTl_ok lkG_ok rfl (by kernel_rfl) [6] (fun N Q' => tNN_vc n0 n x.fr x.mt x.en x.rc lc a1 .dead .dead N Q' ()) ?_
    exact ⟨okB_true hok, fin_of h2 rfl rfl⟩
  · have hlen : 0 < x.il.length := List.length_pos_iff.2 hi0
    have f1 : decide (0 < x.il.length) = true := decide_eq_true hlen
    have f2 : decide (x.il.length ≤ x.il.length) = true := decide_eq_true (Nat.le_refl _)
    have f3 : decide (0 ≤ (x.ol.length : Int) ∧ (x.ol.length : Int) ≤ (x.il.length : Int)) = true := decide_eq_true (by omega)
    rw [sO_ne hi0, oO_ne hi0]
    by_cases hlt : x.ol.length < x.il.length
    · obtain ⟨c, hc⟩ : ∃ c, x.il.length - x.ol.length = c + 1 := ⟨x.il.length - x.ol.length - 1, by omega⟩
      have hct : x.ct = Int.ofNat (Nat.succ c) := by unfold LkX.ct; rw [hc]; rfl
      rw [hct] at hok ⊢
      rw [hc] at hrow
      have hlr : (rowsOf n x.fr x.rc (c + 1)).length = c + 1 := by simp [rowsOf]
      have hms : msB (allR n x.fr x.rc (c + 1)) (mF x.il) (c + 1) (x.il.length - x.ol.length) (0 + x.ol.length * 7) = true := by
        refine okB_true ⟨rowsOf n x.fr x.rc (c + 1), x.il, x.ol.length, rfl, rfl, hlr.symm, hc, by omega, by omega, ?_⟩
        rw [hrow, List.take_of_length_le (by simp; omega)]
      by_cases ho0 : x.ol = []
      · rw [ho0] at hms ⊢
        refine segQ (s := tSN_scr) (A := fun N Q => tSN_VC n0 n x.fr x.mt x.en x.rc lc a1 .dead x.il.length c (mF x.il) N Q ()) XTl_ok lkG_ok rfl (by kernel_rfl) [6] (fun N Q' => tSN_vc n0 n x.fr x.mt x.en x.rc lc a1 .dead x.il.length c (mF x.il) N Q' ()) ?_
        unfold tSN_VC
        simp only [f1, f2, true_and]
        exact ⟨okB_true ⟨rfl, pfs_mF⟩, okB_true hok, by simpa using hms, fin_of h2 rfl rfl⟩
      · rw [sO_ne ho0, oO_ne ho0]
        refine segQ (s := tSS_scr) (A := fun N Q => tSS_VC n0 n x.fr x.mt x.en x.rc lc a1 x.il.length x.ol.length c (mF x.il) (mF x.ol) N Q ()) XTl_ok lkG_ok rfl (by kernel_rfl) [6] (fun N Q' => tSS_vc n0 n x.fr x.mt x.en x.rc lc a1 x.il.length x.ol.length c (mF x.il) (mF x.ol) N Q' ()) ?_
        unfold tSS_VC
        simp only [f1, f2, f3, Int.toNat_natCast, true_and]
        refine ⟨?_, okB_true hok, hms, fin_of h2 rfl rfl⟩
        refine okB_true ⟨x.ol, x.il, 0, rfl, rfl, rfl, rfl, by omega, rfl, ?_⟩
        rw [List.drop_zero]; exact hol.symm
    · have hct : x.ct = Int.ofNat 0 := by unfold LkX.ct; rw [show x.il.length - x.ol.length = 0 by omega]; rfl
      have ho0 : x.ol ≠ [] := by intro e; rw [e] at hlt; exact hlt hlen
      rw [hct] at hok ⊢
      rw [sO_ne ho0, oO_ne ho0]
      refine segQ (s := tS0_scr) (A := fun N Q => tS0_VC n0 n x.fr x.mt x.en x.rc lc a1 x.il.length x.ol.length (mF x.il) (mF x.ol) N Q ()) XTl_ok lkG_ok rfl (by kernel_rfl) [6] (fun N Q' => tS0_vc n0 n x.fr x.mt x.en x.rc lc a1 x.il.length x.ol.length (mF x.il) (mF x.ol) N Q' ()) ?_
      unfold tS0_VC
      simp only [f1, f2, f3, Int.toNat_natCast, true_and]
      refine ⟨?_, okB_true hok, okB_true ⟨by omega, pfs_mF⟩, fin_of h2 rfl rfl⟩
      refine okB_true ⟨x.ol, x.il, 0, rfl, rfl, rfl, rfl, by omega, rfl, ?_⟩
      rw [List.drop_zero]; exact hol.symm
/-- A link that is new. -/
def x0 (n : Nat) : LkX := ⟨[], [], mF (List.replicate n default), 0, 0, false⟩
theorem inv0 {n : Nat} (h1 : 0 < n) (h9 : n ≤ 9) : Inv n 0 (x0 n) := by
  refine ⟨h1, h9, Nat.le_refl _, rfl, Nat.zero_le _, Int.le_refl _, by show (0 : Int) < n; omega, ⟨?_, pfs_mF, ?_⟩, ?_, ?_⟩
  · show (mF (List.replicate n default)).length = n * 7
    rw [mF_len, List.length_replicate]
  · intro i hi
    have hl : i < (List.replicate n (default : Mg)).length := by simpa using hi
    show (_ : Prop)
    simp only [x0]
    rw [mF_get hl (by omega : 0 < 7), mF_get hl (by omega : 1 < 7), mF_get hl (by omega : 2 < 7), mF_get hl (by omega : 3 < 7), mF_get hl (by omega : 4 < 7), mF_get hl (by omega : 5 < 7), mF_get hl (by omega : 6 < 7)]
    exact ⟨rfl, rfl, rfl, rfl, rfl, rfl, rfl⟩
  · intro j hj; cases hj
  · intro h; cases h
/-- The law's result, from its body's end. -/
theorem law_of {args : List AV} {σ : AH} (hl : args.length ≤ 162) (h : WP Try.prog σ.nx lkAllC lkFin (AF.enter 162 args) σ) : SC Try.prog 3 args σ (fun u _ => u = .bool true) := by
  have e1 : (Try.prog.funcs[3]?).isSome = true := by kernel_rfl
  have e2 : (Try.prog.funcs[3]?).bind (·.body) = some lkAllC := by kernel_rfl
  have e3 : (Try.prog.funcs[3]?).map (·.ntmps) = some 162 := by kernel_rfl
  have e4 : (Try.prog.funcs[3]?).map (fun f => resultsA Try.prog ⟨162, [(6, .bool true)]⟩ ⟨2, []⟩ f.results.toList) = some (some [.bool true]) := by kernel_rfl
  cases hf : Try.prog.funcs[3]? with
  | none => rw [hf] at e1; cases e1
  | some fn =>
    rw [hf] at e2 e3 e4
    simp only [Option.bind_some, Option.map_some, Option.some.injEq] at e2 e3 e4
    refine SC_body hf e2 (by rw [e3]; exact hl) ?_
    rw [e3]
    refine h.mono ?_
    rintro e fr σ ⟨rfl, rfl, rfl⟩
    simp only [retQ]
    rw [e4]
    rfl
section
variable {n : Nat} {ms : List Mg} {lk : Nat} {tk : Tk}
theorem mid_ok (h1 : 0 < n) (h9 : n ≤ 9) (hm : ms.length ≤ 100) : WP Try.prog tk.n (.seq lkMid lkTail) lkFin (frP n (.slice 0 0 ms.length (some lk)) tk.v) (lkHp n ms tk (x0 n)) := by
  have h2 : tk.n ≤ 2 := by cases tk <;> simp [Tk.n]
  refine WP.seq ?_
  rw [lkMid_eq]
  refine seg (l := [hdC lkMid]) (s := pR_scr) (A := fun N Q => pR_VC tk.n n (.slice 0 0 ms.length (some lk)) tk.v (lkHp n ms tk (x0 n)) N Q ()) XL0_ok rfl (by kernel_rfl) slR (fun _ : Unit => lkT n ms lk tk (x0 n) 0) (fun _ => True) (fun _ _ => ?_) (fun N Q' => pR_vc tk.n n (.slice 0 0 ms.length (some lk)) tk.v (lkHp n ms tk (x0 n)) N Q' ()) ?_
  · refine WP.block ((WL.loop (lk_loop hm (inv0 h1 h9))).mono ?_)
    rintro e fr σ ⟨rfl, x, hx, rfl, rfl⟩
    show WP Try.prog tk.n lkTail lkFin _ _
    refine WP.refine (tail_ok (lc := mF ms) (a1 := tk.o) h2 hx hm) ?_
    have hf : Fits tk.n (lkGs 4 5) (lkT n ms lk tk x ms.length).1 (lkT n ms lk tk x ms.length).2 (frT (sO 4 x.il) (sO 5 x.ol)) (lkHp n ms tk x) := by
      refine ⟨fit0 (.inl ⟨rfl, rfl⟩), fitO (.inl ⟨rfl, rfl⟩) hx.ring.2.1 rfl rfl rfl rfl selfO selfO, rfl, ?_⟩
      obtain ⟨il, ol, rc, fr, mt, en⟩ := x
      cases il <;> cases ol <;> exact ⟨rfl, rfl, rfl, trivial⟩
    exact hf.refines
  · exact ⟨(), lkGs 4 5, trivial, fitR (.inl ⟨rfl, rfl⟩) pfs_mF rfl rfl rfl rfl rfl selfO selfO⟩
/-- The names at the start. -/
def gsN : List (Nat × Nat) := [(0, 0), (1, 2), (2, 3), (1000, 1)]
def gsT : List (Nat × Nat) := [(0, 0), (1, 1), (2, 2), (3, 3)]
def stP (n : Nat) (ms : List Mg) (lk : Nat) (tk : Tk) : AF × AH := (frP n (.slice 0 0 ms.length (some lk)) tk.v, lkHp n ms tk (x0 n))
theorem nine {A : Nat → Prop} (h : A 9 ∧ A 8 ∧ A 7 ∧ A 6 ∧ A 5 ∧ A 4 ∧ A 3 ∧ A 2 ∧ A 1) : ∀ n, 0 < n → n ≤ 9 → A n := by
  obtain ⟨a, b, c, d, e, f, g, i, j⟩ := h
  intro n h1 h9
  rcases (show n = 1 ∨ n = 2 ∨ n = 3 ∨ n = 4 ∨ n = 5 ∨ n = 6 ∨ n = 7 ∨ n = 8 ∨ n = 9 by omega) with rfl | rfl | rfl | rfl | rfl | rfl | rfl | rfl | rfl <;> assumption
/-- What Tk tells, as the law is called. -/
def Tk.v' : Tk → AV
  | .em => .slice 1000 0 0 none
  | t => t.v
theorem pre_good : ∀ p : {n : Nat // 0 < n ∧ n ≤ 9}, ms.length ≤ 100 → WP Try.prog tk.n (.seq lkMid lkTail) lkFin (stP p.1 ms lk tk).1 (stP p.1 ms lk tk).2 := fun p hm => mid_ok p.2.1 p.2.2 hm
theorem fitN {k : Nat} (hk : 0 < k ∧ k ≤ 9) (hm : ms.length ≤ 100) (ht : tk = .no ∨ tk = .em) {vs : List (Option AV)} {σ : AH} (hv : vs = [some (.bool false), some (.slice 0 0 ms.length (some lk)), some tk.v', some (.int .i64 (k : Int)), some (.ptr 2 0), some .nilslice, some .nilslice]) (g0 : σ.get 0 = .ro (mF ms)) (g1 : σ.get 1 = .cells 33 (mF (List.replicate k default))) (g2 : σ.get 2 = .cells 42 [.slice 1 0 k (some k), .int .i64 0, .int .i64 0, .int .i64 0, .bool false]) :
    ∃ (j : {n : Nat // 0 < n ∧ n ≤ 9}) (gs : _), ms.length ≤ 100 ∧ FitsS tk.n gs slP 162 vs σ (stP j.1 ms lk tk).1 (stP j.1 ms lk tk).2 := by
  subst hv
  refine ⟨⟨k, hk⟩, gsN, hm, ?_, ⟨?_, ?_, ?_, ?_, trivial⟩, rfl, ?_⟩
  · rcases ht with rfl | rfl <;> rfl
  · show ObjRen _ (σ.get 0) _
    rw [g0]; exact .inr ⟨pfs_mF, rfl⟩
  · show ObjRen _ (σ.get 1) _
    rw [g1]; exact ⟨rfl, .inr ⟨pfs_mF, rfl⟩⟩
  · show ObjRen _ (σ.get 2) _
    rw [g2]; exact ⟨rfl, .inl rfl⟩
  · rcases ht with rfl | rfl <;> exact objDead
  · rcases ht with rfl | rfl <;> exact ⟨rfl, rfl, rfl, rfl, rfl, rfl, trivial⟩
theorem fitT {k : Nat} (hk : 0 < k ∧ k ≤ 9) (hm : ms.length ≤ 100) {bl : List Bool} {c : Nat} {vs : List (Option AV)} {σ : AH} (hv : vs = [some (.bool false), some (.slice 0 0 ms.length (some lk)), some (.slice 1 0 bl.length (some c)), some (.int .i64 (k : Int)), some (.ptr 3 0), some .nilslice, some .nilslice]) (g0 : σ.get 0 = .ro (mF ms)) (g1 : σ.get 1 = .ro (bF bl)) (g2 : σ.get 2 = .cells 33 (mF (List.replicate k default))) (g3 : σ.get 3 = .cells 42 [.slice 2 0 k (some k), .int .i64 0, .int .i64 0, .int .i64 0, .bool false]) :
    ∃ (j : {n : Nat // 0 < n ∧ n ≤ 9}) (gs : _), ms.length ≤ 100 ∧ FitsS 2 gs slP 162 vs σ (stP j.1 ms lk (.so bl c)).1 (stP j.1 ms lk (.so bl c)).2 := by
  subst hv
  refine ⟨⟨k, hk⟩, gsT, hm, rfl, ⟨?_, ?_, ?_, ?_, trivial⟩, rfl, ⟨rfl, rfl, rfl, rfl, rfl, rfl, trivial⟩⟩
  · show ObjRen _ (σ.get 0) _
    rw [g0]; exact .inr ⟨pfs_mF, rfl⟩
  · show ObjRen _ (σ.get 1) _
    rw [g1]; exact .inr ⟨pfs_bF, rfl⟩
  · show ObjRen _ (σ.get 2) _
    rw [g2]; exact ⟨rfl, .inr ⟨pfs_mF, rfl⟩⟩
  · show ObjRen _ (σ.get 3) _
    rw [g3]; exact ⟨rfl, .inl rfl⟩
end
/-- Messages, and nothing of when one is taken. -/
theorem ordN_sc {room : Int} {ms : List Mg} {lk : Nat} {tk : Tk} (ht : tk = .no ∨ tk = .em) : SC Try.prog 3 [.int .i64 room, .slice 0 0 ms.length (some lk), tk.v'] ⟨1, [(0, .ro (mF ms))]⟩ (fun u _ => u = .bool true) := by
  refine law_of (by simp) ?_
  have hn : tk.n = 1 := by rcases ht with rfl | rfl <;> rfl
  show WP Try.prog 1 lkAllC lkFin _ _
  rw [← hn, lkAll_eq]
  refine seg (s := pN_scr) (A := fun N Q => pN_VC room ms.length lk (mF ms) tk.v' N Q ()) XPr_ok rfl (by kernel_rfl) slP (fun p : {n : Nat // 0 < n ∧ n ≤ 9} => stP p.1 ms lk tk) (fun _ => ms.length ≤ 100) (fun p hm => pre_good p hm) (fun N Q' => by rw [hn]; exact pN_vc room ms.length lk (mF ms) tk.v' N Q' ()) ?_
  refine ⟨fun h => fin_of (by rw [hn]; omega) rfl rfl, fun h => ?_⟩
  have hm : ms.length ≤ 100 := by have := of_decide_eq_false h; omega
  exact ⟨fitN (k := 9) (by omega) hm ht rfl rfl rfl rfl, fitN (k := 8) (by omega) hm ht rfl rfl rfl rfl, fitN (k := 7) (by omega) hm ht rfl rfl rfl rfl, fitN (k := 6) (by omega) hm ht rfl rfl rfl rfl, fitN (k := 5) (by omega) hm ht rfl rfl rfl rfl, fitN (k := 4) (by omega) hm ht rfl rfl rfl rfl, fitN (k := 3) (by omega) hm ht rfl rfl rfl rfl, fitN (k := 2) (by omega) hm ht rfl rfl rfl rfl, fitN (k := 1) (by omega) hm ht rfl rfl rfl rfl⟩
/-- Messages, and when one is taken. -/
theorem ordT_sc {room : Int} {ms : List Mg} {lk : Nat} {bl : List Bool} {c : Nat} : SC Try.prog 3 [.int .i64 room, .slice 0 0 ms.length (some lk), .slice 1 0 bl.length (some c)] ⟨2, [(1, .ro (bF bl)), (0, .ro (mF ms))]⟩ (fun u _ => u = .bool true) := by
  refine law_of (by simp) ?_
  show WP Try.prog 2 lkAllC lkFin _ _
  rw [lkAll_eq]
  refine seg (s := pT_scr) (A := fun N Q => pT_VC room ms.length lk (mF ms) (bF bl) (.slice 1 0 bl.length (some c)) N Q ()) XPr_ok rfl (by kernel_rfl) slP (fun p : {n : Nat // 0 < n ∧ n ≤ 9} => stP p.1 ms lk (.so bl c)) (fun _ => ms.length ≤ 100) (fun p hm => pre_good (tk := .so bl c) p hm) (fun N Q' => pT_vc room ms.length lk (mF ms) (bF bl) (.slice 1 0 bl.length (some c)) N Q' ()) ?_
  refine ⟨fun h => fin_of (n0 := 2) (by omega) rfl rfl, fun h => ?_⟩
  have hm : ms.length ≤ 100 := by have := of_decide_eq_false h; omega
  exact ⟨fitT (k := 9) (by omega) hm rfl rfl rfl rfl rfl, fitT (k := 8) (by omega) hm rfl rfl rfl rfl rfl, fitT (k := 7) (by omega) hm rfl rfl rfl rfl rfl, fitT (k := 6) (by omega) hm rfl rfl rfl rfl rfl, fitT (k := 5) (by omega) hm rfl rfl rfl rfl rfl, fitT (k := 4) (by omega) hm rfl rfl rfl rfl rfl, fitT (k := 3) (by omega) hm rfl rfl rfl rfl rfl, fitT (k := 2) (by omega) hm rfl rfl rfl rfl rfl, fitT (k := 1) (by omega) hm rfl rfl rfl rfl rfl⟩
-- ------------------------------------------------------------------ no messages
def stZ (n : Nat) (lc : List AV) : AF × AH := (frT .nilslice .nilslice, hpR n 0 0 0 false (mF (List.replicate n default)) lc .dead .dead .dead)
theorem stZ_good {n0 : Nat} (h2 : n0 ≤ 2) {lc : List AV} : ∀ p : {n : Nat // 0 < n ∧ n ≤ 9}, True → WP Try.prog n0 lkTail lkFin (stZ p.1 lc).1 (stZ p.1 lc).2 := fun p _ => tail_ok (x := x0 p.1) h2 (inv0 p.2.1 p.2.2) (by omega)
theorem fitZ0 {k : Nat} (hk : 0 < k ∧ k ≤ 9) {vs : List (Option AV)} {σ : AH} (hv : vs = [some (.bool false), some (.ptr 1 0), some .nilslice, some .nilslice]) (g1 : σ.get 0 = .cells 33 (mF (List.replicate k default))) (g2 : σ.get 1 = .cells 42 [.slice 0 0 k (some k), .int .i64 0, .int .i64 0, .int .i64 0, .bool false]) :
    ∃ (j : {n : Nat // 0 < n ∧ n ≤ 9}) (gs : _), True ∧ FitsS 0 gs slT 162 vs σ (stZ j.1 []).1 (stZ j.1 []).2 := by
  subst hv
  refine ⟨⟨k, hk⟩, [(0, 2), (1, 3)], trivial, rfl, ⟨?_, ?_, trivial⟩, rfl, ⟨rfl, rfl, rfl, trivial⟩⟩
  · show ObjRen _ (σ.get 0) _
    rw [g1]; exact ⟨rfl, .inr ⟨pfs_mF, rfl⟩⟩
  · show ObjRen _ (σ.get 1) _
    rw [g2]; exact ⟨rfl, .inl rfl⟩
theorem fitZ1 {k : Nat} (hk : 0 < k ∧ k ≤ 9) {bl : List Bool} {vs : List (Option AV)} {σ : AH} (hv : vs = [some (.bool false), some (.ptr 2 0), some .nilslice, some .nilslice]) (g0 : σ.get 0 = .ro (bF bl)) (g1 : σ.get 1 = .cells 33 (mF (List.replicate k default))) (g2 : σ.get 2 = .cells 42 [.slice 1 0 k (some k), .int .i64 0, .int .i64 0, .int .i64 0, .bool false]) :
    ∃ (j : {n : Nat // 0 < n ∧ n ≤ 9}) (gs : _), True ∧ FitsS 1 gs slT 162 vs σ (stZ j.1 (bF bl)).1 (stZ j.1 (bF bl)).2 := by
  subst hv
  refine ⟨⟨k, hk⟩, [(0, 0), (1, 2), (2, 3)], trivial, rfl, ⟨?_, ?_, ?_, trivial⟩, rfl, ⟨rfl, rfl, rfl, trivial⟩⟩
  · show ObjRen _ (σ.get 0) _
    rw [g0]; exact .inr ⟨pfs_bF, rfl⟩
  · show ObjRen _ (σ.get 1) _
    rw [g1]; exact ⟨rfl, .inr ⟨pfs_mF, rfl⟩⟩
  · show ObjRen _ (σ.get 2) _
    rw [g2]; exact ⟨rfl, .inl rfl⟩
theorem lkAll_eq2 : lkAllC = seqs (lkPre ++ [lkMid]) lkTail := lkAll_eq
theorem ordZN_sc {room : Int} {tv : AV} : SC Try.prog 3 [.int .i64 room, .nilslice, tv] ⟨0, []⟩ (fun u _ => u = .bool true) := by
  refine law_of (by simp) ?_
  show WP Try.prog 0 lkAllC lkFin _ _
  rw [lkAll_eq2]
  refine seg (s := zN_scr) (A := fun N Q => zN_VC room tv N Q ()) XPr_ok rfl (by kernel_rfl) slT (fun p : {n : Nat // 0 < n ∧ n ≤ 9} => stZ p.1 []) (fun _ => True) (stZ_good (by omega)) (fun N Q' => zN_vc room tv N Q' ()) ?_
  exact ⟨fitZ0 (k := 9) (by omega) rfl rfl rfl, fitZ0 (k := 8) (by omega) rfl rfl rfl, fitZ0 (k := 7) (by omega) rfl rfl rfl, fitZ0 (k := 6) (by omega) rfl rfl rfl, fitZ0 (k := 5) (by omega) rfl rfl rfl, fitZ0 (k := 4) (by omega) rfl rfl rfl, fitZ0 (k := 3) (by omega) rfl rfl rfl, fitZ0 (k := 2) (by omega) rfl rfl rfl, fitZ0 (k := 1) (by omega) rfl rfl rfl⟩
theorem ordYN_sc {room : Int} {tv : AV} : SC Try.prog 3 [.int .i64 room, .slice 1000 0 0 none, tv] ⟨0, []⟩ (fun u _ => u = .bool true) := by
  refine law_of (by simp) ?_
  show WP Try.prog 0 lkAllC lkFin _ _
  rw [lkAll_eq2]
  refine seg (s := yN_scr) (A := fun N Q => yN_VC room tv N Q ()) XPr_ok rfl (by kernel_rfl) slT (fun p : {n : Nat // 0 < n ∧ n ≤ 9} => stZ p.1 []) (fun _ => True) (stZ_good (by omega)) (fun N Q' => yN_vc room tv N Q' ()) ?_
  exact ⟨fitZ0 (k := 9) (by omega) rfl rfl rfl, fitZ0 (k := 8) (by omega) rfl rfl rfl, fitZ0 (k := 7) (by omega) rfl rfl rfl, fitZ0 (k := 6) (by omega) rfl rfl rfl, fitZ0 (k := 5) (by omega) rfl rfl rfl, fitZ0 (k := 4) (by omega) rfl rfl rfl, fitZ0 (k := 3) (by omega) rfl rfl rfl, fitZ0 (k := 2) (by omega) rfl rfl rfl, fitZ0 (k := 1) (by omega) rfl rfl rfl⟩
theorem ordZT_sc {room : Int} {tv : AV} {bl : List Bool} : SC Try.prog 3 [.int .i64 room, .nilslice, tv] ⟨1, [(0, .ro (bF bl))]⟩ (fun u _ => u = .bool true) := by
  refine law_of (by simp) ?_
  show WP Try.prog 1 lkAllC lkFin _ _
  rw [lkAll_eq2]
  refine seg (s := zT_scr) (A := fun N Q => zT_VC room tv (bF bl) N Q ()) XPr_ok rfl (by kernel_rfl) slT (fun p : {n : Nat // 0 < n ∧ n ≤ 9} => stZ p.1 (bF bl)) (fun _ => True) (stZ_good (by omega)) (fun N Q' => zT_vc room tv (bF bl) N Q' ()) ?_
  exact ⟨fitZ1 (k := 9) (by omega) rfl rfl rfl rfl, fitZ1 (k := 8) (by omega) rfl rfl rfl rfl, fitZ1 (k := 7) (by omega) rfl rfl rfl rfl, fitZ1 (k := 6) (by omega) rfl rfl rfl rfl, fitZ1 (k := 5) (by omega) rfl rfl rfl rfl, fitZ1 (k := 4) (by omega) rfl rfl rfl rfl, fitZ1 (k := 3) (by omega) rfl rfl rfl rfl, fitZ1 (k := 2) (by omega) rfl rfl rfl rfl, fitZ1 (k := 1) (by omega) rfl rfl rfl rfl⟩
theorem ordYT_sc {room : Int} {tv : AV} {bl : List Bool} : SC Try.prog 3 [.int .i64 room, .slice 1000 0 0 none, tv] ⟨1, [(0, .ro (bF bl))]⟩ (fun u _ => u = .bool true) := by
  refine law_of (by simp) ?_
  show WP Try.prog 1 lkAllC lkFin _ _
  rw [lkAll_eq2]
  refine seg (s := yT_scr) (A := fun N Q => yT_VC room tv (bF bl) N Q ()) XPr_ok rfl (by kernel_rfl) slT (fun p : {n : Nat // 0 < n ∧ n ≤ 9} => stZ p.1 (bF bl)) (fun _ => True) (stZ_good (by omega)) (fun N Q' => yT_vc room tv (bF bl) N Q' ()) ?_
  exact ⟨fitZ1 (k := 9) (by omega) rfl rfl rfl rfl, fitZ1 (k := 8) (by omega) rfl rfl rfl rfl, fitZ1 (k := 7) (by omega) rfl rfl rfl rfl, fitZ1 (k := 6) (by omega) rfl rfl rfl rfl, fitZ1 (k := 5) (by omega) rfl rfl rfl rfl, fitZ1 (k := 4) (by omega) rfl rfl rfl rfl, fitZ1 (k := 3) (by omega) rfl rfl rfl rfl, fitZ1 (k := 2) (by omega) rfl rfl rfl rfl, fitZ1 (k := 1) (by omega) rfl rfl rfl rfl⟩
end Go.Proofs.Ytfamikdibjhnpaa.V
namespace Go.Proofs.Ytfamikdibjhnpaa.V
open Go Go.Proofs Go.Joins Go.ChangeShapes Go.WideShapes Go.RowKit Go.Deep
set_option maxRecDepth 100000
set_option linter.unusedSimpArgs false
set_option linter.unusedVariables false
def ksM : List K1 := [.i .i64, .i .i64, .i .i64, .i .u8, .i .i64, .i .i64, .i .u8]
theorem mgs_of : ∀ {xs : List (List AV)}, (∀ x ∈ xs, wfKs ksM x) → ∃ ms : List Mg, xs = ms.map Mg.cells
  | [], _ => ⟨[], rfl⟩
  | x :: xs, h => by
    obtain ⟨rq, hr⟩ := mgs_of (xs := xs) (fun y hy => h y (by simp [hy]))
    have hx := h x (by simp)
    unfold ksM at hx
    rcases x with _ | ⟨a, _ | ⟨b, _ | ⟨c, _ | ⟨d, _ | ⟨e, _ | ⟨f, _ | ⟨g, _ | ⟨i, r⟩⟩⟩⟩⟩⟩⟩⟩
    · exact hx.elim
    · exact hx.2.elim
    · exact hx.2.2.elim
    · exact hx.2.2.2.elim
    · exact hx.2.2.2.2.elim
    · exact hx.2.2.2.2.2.elim
    · exact hx.2.2.2.2.2.2.elim
    · obtain ⟨⟨k, rfl, _⟩, ⟨t, rfl, _⟩, ⟨c, rfl, _⟩, ⟨hh, rfl, _⟩, ⟨b, rfl, _⟩, ⟨p, rfl, _⟩, ⟨v, rfl, _⟩, _⟩ := hx
      exact ⟨⟨k, t, c, hh, b, p, v⟩ :: rq, by rw [List.map_cons, ← hr]; rfl⟩
    · exact hx.2.2.2.2.2.2.2.elim
theorem bls_of : ∀ {xs : List (List AV)}, (∀ x ∈ xs, wfKs [.b] x) → ∃ bl : List Bool, xs = bl.map (fun b => [AV.bool b])
  | [], _ => ⟨[], rfl⟩
  | x :: xs, h => by
    obtain ⟨bl, hr⟩ := bls_of (xs := xs) (fun y hy => h y (by simp [hy]))
    have hx := h x (by simp)
    rcases x with _ | ⟨a, _ | ⟨b, r⟩⟩
    · exact hx.elim
    · obtain ⟨⟨m, rfl⟩, _⟩ := hx
      exact ⟨m :: bl, by rw [List.map_cons, ← hr]⟩
    · exact hx.2.elim
theorem bls_flat : ∀ {bl : List Bool}, (bl.map (fun b => [AV.bool b])).flatten = bF bl
  | [] => rfl
  | b :: r => by
    have := bls_flat (bl := r)
    unfold bF at this ⊢
    simp [this]
section
variable {H : Type} {enc : TypeId × Value → H} {P : Program} {w : World} {base : Nat} {spare : Nat → Bool} {held : Bool}
theorem open_msgs {r : Go.Reach} {b0 : Nat} {t e : TypeId} {fs : Array Field} {v : Value} {d : DataW H} {p : List MemPlace} (ht : P.underlying t = some (.slice e)) (hs : P.underlying e = some (.struct fs)) (hone : oneCellFields P fs = true) (hC : P.cellsOf e = 7) (hC' : P.cellsOf e = fs.size)
    (hk : kindsOf P fs.toList = some ksM) (hv : Value.okWide P w r b0 t v) (h : DataW.Trod enc P w base spare held t v d p) :
    v = .slice none 0 0 ∨ (∃ a cap, v = .slice (some a) 0 cap) ∨ ∃ (blk off cap : Nat) (ms : List Mg), 0 < ms.length ∧ v = .slice (some ⟨blk, off, none⟩) ms.length cap ∧ Holds w ⟨blk, off, 7, cap⟩ (mF ms) := by
  rcases open_slm (ks := ksM) ht hC (fun fuel cs x hf => open_cells hs hone hC' hk hf) (by simp [ksM]) hv h with h | h | ⟨blk, off, cap, xs, h0, hle, rfl, hh, hw⟩
  · exact .inl h
  · exact .inr (.inl h)
  · obtain ⟨ms, rfl⟩ := mgs_of hw
    exact .inr (.inr ⟨blk, off, cap, ms, by simpa using h0, by rw [List.length_map], hh⟩)
theorem open_bools {r : Go.Reach} {b0 : Nat} {t e : TypeId} {v : Value} {d : DataW H} {p : List MemPlace} (ht : P.underlying t = some (.slice e)) (hs : P.underlying e = some .bool) (hC : P.cellsOf e = 1)
    (hv : Value.okWide P w r b0 t v) (h : DataW.Trod enc P w base spare held t v d p) :
    v = .slice none 0 0 ∨ (∃ a cap, v = .slice (some a) 0 cap) ∨ ∃ (blk off cap : Nat) (bl : List Bool), 0 < bl.length ∧ v = .slice (some ⟨blk, off, none⟩) bl.length cap ∧ Holds w ⟨blk, off, 1, cap⟩ (bF bl) := by
  rcases open_slm (ks := [.b]) ht hC (fun fuel cs x hf => open_cell_b hs hf) (by simp) hv h with h | h | ⟨blk, off, cap, xs, h0, hle, rfl, hh, hw⟩
  · exact .inl h
  · exact .inr (.inl h)
  · obtain ⟨bl, rfl⟩ := bls_of hw
    rw [bls_flat] at hh
    exact .inr (.inr ⟨blk, off, cap, bl, by simpa using h0, by rw [List.length_map], hh⟩)
end
theorem SC.heap_eq {P : Program} {f : Nat} {args : List AV} {σ τ : AH} {Q : AV → AH → Prop} (hn : σ.nx = τ.nx) (hg : ∀ b, σ.get b = τ.get b) (h : SC P f args σ Q) : SC P f args τ Q := by
  intro ρ args' w hv hr
  have hw : Wr ρ σ = Wr ρ τ := by
    funext c
    unfold Wr
    simp only [hg]
  have hr' : HR ρ σ w := ⟨fun b r hb => by rw [hn]; exact hr.dom b r hb, hr.lt, fun b r hb => by rw [hg]; exact hr.obj b r hb, fun b b' r r' h1 h2 h3 h4 h5 => by rw [hg] at h4 h5; exact hr.inj b b' r r' h1 h2 h3 h4 h5⟩
  refine Calls.mono (h ρ args' w hv hr') ?_
  rintro e w' ⟨v, v', ρ', σ', h1, h2, h3, h4, h5⟩
  rw [hn, hw] at h5
  exact ⟨v, v', ρ', σ', h1, h2, h3, h4, h5⟩
theorem two_ro (a b : List AV) : ∀ k, (⟨2, [(1, .ro b), (0, .ro a)]⟩ : AH).get k = (roS [a, b]).get k := by
  intro k
  rw [roS_get]
  match k with
  | 0 => rfl
  | 1 => rfl
  | k + 2 => rfl
theorem ordT_ro {room : Int} {ms : List Mg} {lk : Nat} {bl : List Bool} {c : Nat} : SC Try.prog 3 [.int .i64 room, .slice 0 0 ms.length (some lk), .slice 1 0 bl.length (some c)] (roS [mF ms, bF bl]) (fun u _ => u = .bool true) :=
  SC.heap_eq (σ := ⟨2, [(1, .ro (bF bl)), (0, .ro (mF ms))]⟩) rfl (two_ro _ _) ordT_sc
end Go.Proofs.Ytfamikdibjhnpaa.V
