/- render: a frame's picture out of nothing (part 4): picture's loops. -/
import Derived.Test.YtkehopncefhohaaRdW
namespace Go.Proofs.Ytkehopncefhohaa.V
open Go Go.Proofs
set_option maxRecDepth 100000
set_option maxHeartbeats 4000000
set_option linter.unusedSimpArgs false
set_option linter.unusedVariables false
theorem wrap_in {n : Int} (h1 : -9223372036854775808 ≤ n) (h2 : n ≤ 9223372036854775807) : IntKind.i64.wrap n = n := by
  rw [IntKind.wrap_i64]; omega
def pvB (b : Nat) : Nat → AV
  | 0 => .nilslice
  | k + 1 => .slice b 0 (k + 1) none
def pcs (k : Nat) : List AV := List.replicate k (.int .u8 0)
def po : Nat → AObj
  | 0 => .dead
  | k + 1 => .opn 5 1 (pcs (k + 1))
theorem pvB_pos {b k : Nat} (h : 0 < k) : pvB b k = .slice b 0 k none := by cases k <;> first | rfl | cases h
theorem po_pos {k : Nat} (h : 0 < k) : po k = .opn 5 1 (pcs k) := by cases k <;> first | rfl | cases h
theorem pfs_pcs : ∀ {k : Nat}, pfs (pcs k) = true
  | 0 => rfl
  | k + 1 => by
    have := pfs_pcs (k := k)
    unfold pcs at this ⊢
    rw [List.replicate_succ]
    simp only [pfs, this, Bool.and_true]
    rfl
theorem pcs_succ {k : Nat} : pcs (k + 1) = pcs k ++ [.int .u8 0] := by unfold pcs; rw [List.replicate_succ']
theorem pcs_len {k : Nat} : (pcs k).length = k := by simp [pcs]
def pgs (b : Nat) : List (Nat × Nat) := [(0, 0), (1, 1), (2, 2), (3, 3), (b, 4)]
def pSt (k : Nat) : AH := pHp (pvB 4 k) (po k)
theorem pfit {b k : Nat} (hb : b = 4 ∨ b = 6) {σ : AH} (g0 : σ.get 0 = .cells 29 scrC) (g1 : σ.get 1 = .cells 24 [.int .i64 0, .nilslice, .nilslice]) (g2 : σ.get 2 = .cells 65 [.nilmap, .nilmap, .nilslice]) (g3 : σ.get 3 = .cells 24 [.int .i64 0, pvB b k, .nilslice]) (g4 : po k = .dead ∨ σ.get b = po k) :
    objsRen (pgs b) σ (pSt k) (pgs b) := by
  refine ⟨?_, ?_, ?_, ?_, ?_, trivial⟩
  · show ObjRen _ (σ.get 0) _
    rw [g0]; exact ⟨rfl, .inr ⟨rfl, rfl⟩⟩
  · show ObjRen _ (σ.get 1) _
    rw [g1]; exact ⟨rfl, .inl rfl⟩
  · show ObjRen _ (σ.get 2) _
    rw [g2]; exact ⟨rfl, .inl rfl⟩
  · show ObjRen _ (σ.get 3) _
    rw [g3]
    rcases hb with rfl | rfl <;> cases k <;> exact ⟨rfl, .inl rfl⟩
  · show ObjRen _ (σ.get b) (po k)
    cases k with
    | zero => cases σ.get b <;> trivial
    | succ k =>
      rcases g4 with h | h
      · cases h
      · rw [h]; exact ⟨rfl, rfl, .inr ⟨pfs_pcs, rfl⟩⟩
theorem pfitB {b : Nat} (hb : b = 4 ∨ b = 6) : fitsB 0 5 (pgs b) = true := by rcases hb with rfl | rfl <;> rfl
def mo : Nat → Int
  | 0 => 128 | 1 => 64 | 2 => 32 | 3 => 16 | 4 => 8 | 5 => 4 | 6 => 2 | 7 => 1 | _ => 0
theorem mo_half {j : Nat} (h : j < 8) : mo j / 2 = mo (j + 1) ∧ (!decide (mo j = 0)) = true := by
  rcases (show j = 0 ∨ j = 1 ∨ j = 2 ∨ j = 3 ∨ j = 4 ∨ j = 5 ∨ j = 6 ∨ j = 7 by omega) with rfl | rfl | rfl | rfl | rfl | rfl | rfl | rfl <;> decide
theorem fitM {b k : Nat} (hb : b = 4 ∨ b = 6) {y x m : Int} {vs : List (Option AV)} {σ : AH} (hv : vs = [some (.ptr 2 0), some (.int .i64 0), some (.ptr 0 0), some (.ptr 1 0), some (.ptr 3 0), some (.int .i64 y), some (.int .u8 0), some (.int .u8 0), some (.int .u8 m), some (.int .i64 192), some (.int .i64 y), some (.int .i64 32), some (.int .i64 x)]) (g0 : σ.get 0 = .cells 29 scrC) (g1 : σ.get 1 = .cells 24 [.int .i64 0, .nilslice, .nilslice]) (g2 : σ.get 2 = .cells 65 [.nilmap, .nilmap, .nilslice]) (g3 : σ.get 3 = .cells 24 [.int .i64 0, pvB b k, .nilslice]) (g4 : po k = .dead ∨ σ.get b = po k) :
    FitsS 0 (pgs b) slM 75 vs σ (fM y x m) (pSt k) := by
  subst hv
  exact ⟨pfitB hb, pfit hb g0 g1 g2 g3 g4, rfl, by rcases hb with rfl | rfl <;> exact ⟨rfl, rfl, rfl, rfl, rfl, rfl, rfl, rfl, rfl, rfl, rfl, rfl, rfl, trivial⟩⟩
theorem fitX {k : Nat} {y x : Int} {vs : List (Option AV)} {σ : AH} (hv : vs = [some (.ptr 2 0), some (.int .i64 0), some (.ptr 0 0), some (.ptr 1 0), some (.ptr 3 0), some (.int .i64 y), some (.int .i64 192), some (.int .i64 y), some (.int .i64 32), some (.int .i64 x)]) (g0 : σ.get 0 = .cells 29 scrC) (g1 : σ.get 1 = .cells 24 [.int .i64 0, .nilslice, .nilslice]) (g2 : σ.get 2 = .cells 65 [.nilmap, .nilmap, .nilslice]) (g3 : σ.get 3 = .cells 24 [.int .i64 0, pvB 4 k, .nilslice]) (g4 : po k = .dead ∨ σ.get 4 = po k) :
    FitsS 0 (pgs 4) slX 75 vs σ (fX y x) (pSt k) := by
  subst hv
  exact ⟨rfl, pfit (.inl rfl) g0 g1 g2 g3 g4, rfl, ⟨rfl, rfl, rfl, rfl, rfl, rfl, rfl, rfl, rfl, rfl, trivial⟩⟩
theorem fitY {k : Nat} {y : Int} {vs : List (Option AV)} {σ : AH} (hv : vs = [some (.ptr 2 0), some (.int .i64 0), some (.ptr 0 0), some (.ptr 1 0), some (.ptr 3 0), some (.int .i64 192), some (.int .i64 y)]) (g0 : σ.get 0 = .cells 29 scrC) (g1 : σ.get 1 = .cells 24 [.int .i64 0, .nilslice, .nilslice]) (g2 : σ.get 2 = .cells 65 [.nilmap, .nilmap, .nilslice]) (g3 : σ.get 3 = .cells 24 [.int .i64 0, pvB 4 k, .nilslice]) (g4 : po k = .dead ∨ σ.get 4 = po k) :
    FitsS 0 (pgs 4) slY 75 vs σ (fY y) (pSt k) := by
  subst hv
  exact ⟨rfl, pfit (.inl rfl) g0 g1 g2 g3 g4, rfl, ⟨rfl, rfl, rfl, rfl, rfl, rfl, rfl, trivial⟩⟩
/-- A byte's pixels. -/
theorem m_wl {y x : Int} {k : Nat} (hk : k ≤ 50000) : WL Try.prog 0 pcM (fun e fr σ => e = .exit 4 ∧ fr = fM y x 0 ∧ σ = pSt (k + 8)) (fM y x 128) (pSt k) := by
  refine WL_fam (ι := {j : Nat // j ≤ 8}) (fun j => (fM y x (mo j.1), pSt (k + j.1))) (fun j => 8 - j.1) ?_ ⟨0, by omega⟩
  rintro ⟨j, hj⟩
  show WP Try.prog 0 pcM _ (fM y x (mo j)) (pSt (k + j))
  by_cases h8 : j < 8
  · obtain ⟨hh, hz⟩ := mo_half h8
    have next : ∀ (i : Unit) gs fr σ, True → Fits 0 gs fr σ (fM y x (mo (j + 1))) (pSt (k + (j + 1))) → ∃ (i : {j : Nat // j ≤ 8}) (gs : _), 8 - i.1 < 8 - j ∧ Fits 0 gs fr σ (fM y x (mo i.1)) (pSt (k + i.1)) := fun _ gs fr σ _ hf => ⟨⟨j + 1, h8⟩, gs, by show 8 - (j + 1) < 8 - j; omega, hf⟩
    by_cases h0 : k + j = 0
    · rw [show pSt (k + j) = pHp .nilslice .dead from by rw [h0]; rfl]
      refine segE (s := mN_scr) (A := fun N Q => mN_VC y x (mo j) N Q ()) XRw_ok rfl (by kernel_rfl) slM (fun _ : Unit => (fM y x (mo (j + 1)), pSt (k + (j + 1)))) (fun _ => True) next (fun N Q' => mN_vc y x (mo j) N Q' ()) ?_
      unfold mN_VC
      rw [hz, hh]
      refine ⟨fun _ => ⟨(), pgs 6, trivial, ?_⟩, fun h => by cases h⟩
      rw [show k + (j + 1) = 1 by omega]
      exact fitM (.inr rfl) rfl rfl rfl rfl rfl (.inr rfl)
    · have hp : 0 < k + j := by omega
      have f1 : decide (0 < k + j) = true := decide_eq_true hp
      have f2 : decide ((k + j) * 1 = (pcs (k + j)).length) = true := by rw [pcs_len]; exact decide_eq_true (by omega)
      have f3 : decide ((k + j + 1) * 1 ≤ 140737488355328) = true := decide_eq_true (by omega)
      have f4 : decide (k + j + 1 ≤ 140737488355328) = true := decide_eq_true (by omega)
      rw [show pSt (k + j) = pHp (.slice 4 0 (k + j) none) (.opn 5 1 (pcs (k + j))) from by unfold pSt; rw [pvB_pos hp, po_pos hp]]
      refine segE (s := mS_scr) (A := fun N Q => mS_VC y x (mo j) (k + j) (pcs (k + j)) N Q ()) XRw_ok rfl (by kernel_rfl) slM (fun _ : Unit => (fM y x (mo (j + 1)), pSt (k + (j + 1)))) (fun _ => True) next (fun N Q' => mS_vc y x (mo j) (k + j) (pcs (k + j)) N Q' ()) ?_
      unfold mS_VC
      rw [hz, hh]
      refine ⟨fun _ => ⟨f1, f2, f3, f4, (), pgs 6, trivial, ?_⟩, fun h => by cases h⟩
      rw [← Nat.add_assoc]
      exact fitM (.inr rfl) rfl rfl rfl rfl rfl (.inr (by rw [po_pos (Nat.succ_pos _), pcs_succ]; rfl))
  · obtain rfl : j = 8 := by omega
    have e0 : mo 8 = 0 := rfl
    rw [e0]
    have fin : ∃ gs fr' σ', FitsS 0 gs slM 75 [some (.ptr 2 0), some (.int .i64 0), some (.ptr 0 0), some (.ptr 1 0), some (.ptr 3 0), some (.int .i64 y), some (.int .u8 0), some (.int .u8 0), some (.int .u8 0), some (.int .i64 192), some (.int .i64 y), some (.int .i64 32), some (.int .i64 x)] (pSt (k + 8)) fr' σ' ∧ (Exit.exit 4 = Exit.exit 4 ∧ fr' = fM y x 0 ∧ σ' = pSt (k + 8)) :=
      ⟨pgs 4, _, _, fitM (.inl rfl) rfl rfl rfl rfl rfl (.inr rfl), rfl, rfl, rfl⟩
    have hp : 0 < k + 8 := by omega
    have es : pSt (k + 8) = pHp (.slice 4 0 (k + 8) none) (.opn 5 1 (pcs (k + 8))) := by unfold pSt; rw [pvB_pos hp, po_pos hp]
    rw [es] at fin ⊢
    refine segE (s := mS_scr) (A := fun N Q => mS_VC y x 0 (k + 8) (pcs (k + 8)) N Q ()) XRw_ok rfl (by kernel_rfl) slM (fun _ : Unit => (fM y x 0, pSt (k + 8))) (fun _ => False) (fun _ _ _ _ h => h.elim) (fun N Q' => mS_vc y x 0 (k + 8) (pcs (k + 8)) N Q' ()) ?_
    unfold mS_VC
    exact ⟨fun h => (by cases h), fun _ => fin⟩
/-- A row's bytes. -/
theorem x_wl {y : Nat} (hy : y < 192) : WL Try.prog 0 pcX (fun e fr σ => e = .exit 2 ∧ fr = fX y 32 ∧ σ = pSt (y * 256 + 256)) (fX y 0) (pSt (y * 256)) := by
  refine WL_fam (ι := {j : Nat // j ≤ 32}) (fun j => (fX y (j.1 : Int), pSt (y * 256 + j.1 * 8))) (fun j => 32 - j.1) ?_ ⟨0, by omega⟩
  rintro ⟨x, hx⟩
  show WP Try.prog 0 pcX _ (fX y (x : Int)) (pSt (y * 256 + x * 8))
  rw [pcX_eq]
  refine seg (s := xH_scr) (A := fun N Q => xH_VC y x (pSt (y * 256 + x * 8)) N Q ()) XRw_ok rfl (by kernel_rfl) slX (fun _ : Unit => (fX y (x : Int), pSt (y * 256 + x * 8))) (fun _ => x < 32) (fun _ hlt => ?_) (fun N Q' => xH_vc y x (pSt (y * 256 + x * 8)) N Q' ()) ?_
  · refine WP.seqBlock ?_
    rw [pcXB_eq]
    have g : ∃ gs, FitsS 0 gs slM 75 [some (.ptr 2 0), some (.int .i64 0), some (.ptr 0 0), some (.ptr 1 0), some (.ptr 3 0), some (.int .i64 (y : Int)), some (.int .u8 0), some (.int .u8 0), some (.int .u8 128), some (.int .i64 192), some (.int .i64 (y : Int)), some (.int .i64 32), some (.int .i64 (x : Int))] ⟨6, (5, .cells 29 scrC) :: (pSt (y * 256 + x * 8)).m⟩ (fM y x 128) (pSt (y * 256 + x * 8)) :=
      ⟨pgs 4, fitM (.inl rfl) rfl rfl rfl rfl rfl (.inr rfl)⟩
    refine seg (s := xB_scr) (A := fun N Q => xB_VC y x (pvB 4 (y * 256 + x * 8)) (po (y * 256 + x * 8)) N Q ()) XRw_ok rfl (by kernel_rfl) slM (fun _ : Unit => (fM y (x : Int) 128, pSt (y * 256 + x * 8))) (fun _ => True) (fun _ _ => ?_) (fun N Q' => xB_vc y x (pvB 4 (y * 256 + x * 8)) (po (y * 256 + x * 8)) N Q' ()) ?_
    · refine WP.block ((WL.loop (m_wl (y := y) (x := x) (k := y * 256 + x * 8) (by omega))).mono ?_)
      rintro e fr σ ⟨rfl, rfl, rfl⟩
      show WP Try.prog 0 pcXI _ (fM y x 0) (pSt (y * 256 + x * 8 + 8))
      have w1 : IntKind.i64.wrap ((x : Int) + 1) = ((x + 1 : Nat) : Int) := by rw [wrap_in (by omega) (by omega)]; omega
      refine segE (s := xI_scr) (A := fun N Q => xI_VC y x 0 (pSt (y * 256 + x * 8 + 8)) N Q ()) XRw_ok rfl (by kernel_rfl) slX (fun _ : Unit => (fX y ((x + 1 : Nat) : Int), pSt (y * 256 + (x + 1) * 8))) (fun _ => True) (fun _ gs fr σ _ hf => ⟨⟨x + 1, hlt⟩, gs, by show 32 - (x + 1) < 32 - x; omega, hf⟩) (fun N Q' => xI_vc y x 0 (pSt (y * 256 + x * 8 + 8)) N Q' ()) ?_
      unfold xI_VC
      rw [w1]
      refine ⟨(), pgs 4, trivial, ?_⟩
      rw [show y * 256 + (x + 1) * 8 = y * 256 + x * 8 + 8 by omega]
      exact fitX rfl rfl rfl rfl rfl (.inr rfl)
    · have f1 : (!decide ((x : Int) < 0)) = true := by rw [decide_eq_false (by omega)]; rfl
      have f1' : decide ((x : Int) < 0) = false := decide_eq_false (by omega)
      have f2 : (!decide ((x : Int) ≥ 32)) = true := by rw [decide_eq_false (by omega)]; rfl
      have f2' : decide ((x : Int) ≥ 32) = false := decide_eq_false (by omega)
      have f3 : (!decide ((y : Int) < 0)) = true := by rw [decide_eq_false (by omega)]; rfl
      have f3' : decide ((y : Int) < 0) = false := decide_eq_false (by omega)
      have f4 : decide ((y : Int) ≥ 192) = false := decide_eq_false (by omega)
      obtain ⟨gs, hg⟩ := g
      simp only [xB_VC, f1', f2', f3', f4, Bool.not_false, Bool.true_eq_false, Bool.false_eq_true, false_implies, true_implies, true_and, and_true]
      exact ⟨(), gs, hg⟩
  · refine ⟨fun h => ⟨(), pgs 4, by have := of_decide_eq_true h; omega, fitX rfl rfl rfl rfl rfl (.inr rfl)⟩, fun h => ?_⟩
    have : x = 32 := by have := of_decide_eq_false h; omega
    subst this
    exact ⟨pgs 4, _, _, fitX rfl rfl rfl rfl rfl (.inr rfl), rfl, rfl, rfl⟩
/-- The picture's rows. -/
theorem y_wl : WL Try.prog 0 pcY (fun e fr σ => e = .exit 0 ∧ fr = fY 192 ∧ σ = pSt 49152) (fY 0) (pSt 0) := by
  refine WL_fam (ι := {j : Nat // j ≤ 192}) (fun j => (fY (j.1 : Int), pSt (j.1 * 256))) (fun j => 192 - j.1) ?_ ⟨0, by omega⟩
  rintro ⟨y, hy⟩
  show WP Try.prog 0 pcY _ (fY (y : Int)) (pSt (y * 256))
  rw [pcY_eq]
  refine seg (s := yH_scr) (A := fun N Q => yH_VC y (pSt (y * 256)) N Q ()) XRw_ok rfl (by kernel_rfl) slY (fun _ : Unit => (fY (y : Int), pSt (y * 256))) (fun _ => y < 192) (fun _ hlt => ?_) (fun N Q' => yH_vc y (pSt (y * 256)) N Q' ()) ?_
  · refine WP.seqBlock ?_
    rw [pcYB_eq]
    refine seg (s := yB_scr) (A := fun N Q => yB_VC y (pvB 4 (y * 256)) (po (y * 256)) N Q ()) XRw_ok rfl (by kernel_rfl) slX (fun _ : Unit => (fX y 0, pSt (y * 256))) (fun _ => True) (fun _ _ => ?_) (fun N Q' => yB_vc y (pvB 4 (y * 256)) (po (y * 256)) N Q' ()) ?_
    · refine WP.block ((WL.loop (x_wl hlt)).mono ?_)
      rintro e fr σ ⟨rfl, rfl, rfl⟩
      show WP Try.prog 0 pcYI _ (fX y 32) (pSt (y * 256 + 256))
      have w1 : IntKind.i64.wrap ((y : Int) + 1) = ((y + 1 : Nat) : Int) := by rw [wrap_in (by omega) (by omega)]; omega
      refine WP.refine (fr' := fY y) (σ' := pSt (y * 256 + 256)) ?_ (FitsS.fits (sl := slY) (gs := pgs 4) (fitY rfl rfl rfl rfl rfl (.inr rfl))).refines
      refine segE (s := yI_scr) (A := fun N Q => yI_VC y (pSt (y * 256 + 256)) N Q ()) XRw_ok rfl (by kernel_rfl) slY (fun _ : Unit => (fY ((y + 1 : Nat) : Int), pSt ((y + 1) * 256))) (fun _ => True) (fun _ gs fr σ _ hf => ⟨⟨y + 1, hlt⟩, gs, by show 192 - (y + 1) < 192 - y; omega, hf⟩) (fun N Q' => yI_vc y (pSt (y * 256 + 256)) N Q' ()) ?_
      unfold yI_VC
      rw [w1]
      refine ⟨(), pgs 4, trivial, ?_⟩
      rw [show (y + 1) * 256 = y * 256 + 256 by omega]
      exact fitY rfl rfl rfl rfl rfl (.inr rfl)
    · exact ⟨(), pgs 4, trivial, fitX rfl rfl rfl rfl rfl (.inr rfl)⟩
  · refine ⟨fun h => ⟨(), pgs 4, by have := of_decide_eq_true h; omega, fitY rfl rfl rfl rfl rfl (.inr rfl)⟩, fun h => ?_⟩
    have : y = 192 := by have := of_decide_eq_false h; omega
    subst this
    exact ⟨pgs 4, _, _, fitY rfl rfl rfl rfl rfl (.inr rfl), rfl, rfl, rfl⟩
end Go.Proofs.Ytkehopncefhohaa.V
