/- link: what is sent and taken (part 6): the round's other pieces, and the loop. -/
import Derived.Test.YtfamikdibjhnpaaLkL
namespace Go.Proofs.Ytfamikdibjhnpaa.V
open Go Go.Proofs
set_option maxRecDepth 100000
set_option maxHeartbeats 4000000
set_option linter.unusedSimpArgs false
set_option linter.unusedVariables false
section
variable {n : Nat} {ms : List Mg} {lk : Nat} {tk : Tk}
theorem selfO {l : List Mg} : oO l = .dead ∨ oO l = oO l := .inr rfl
/-- What nobody could have sent. -/
theorem seg2 {y : LkX × Option (Bool × Nat)} {i : Nat} (hx : Inv n (i + 1) y.1) (hi : i < ms.length) {d : Code} {Q : Exit → AF → AH → Prop} (next : ∀ x : LkX, Inv n (i + 1) x → WP Try.prog tk.n d Q (lkT n ms lk tk x i).1 (lkT n ms lk tk x i).2) :
    WP Try.prog tk.n (seqs lkS2 d) Q (lkE n ms lk tk i y).1 (lkE n ms lk tk i y).2 := by
  obtain ⟨x, o⟩ := y
  have hn0 := hx.n0
  have f2 : decide (0 ≤ (i : Int) ∧ (i : Int) < (ms.length : Int)) = true := by simp; omega
  have f3 : decide (0 + Int.toNat (i : Int) * 7 + 7 ≤ (mF ms).length) = true := by rw [mF_len]; simp; omega
  have done : ∃ j gs, Inv n (i + 1) j ∧ FitsS tk.n gs slR 162 [some (.slice 0 0 ms.length (some lk)), some tk.v, some (.int .i64 (n : Int)), some (.ptr 3 0), some (sO 4 x.il), some (sO 5 x.ol), some (.int .i64 (i : Int))] (lkHp n ms tk x) (lkT n ms lk tk j i).1 (lkT n ms lk tk j i).2 :=
    ⟨x, lkGs 4 5, hx, fitR (.inl ⟨rfl, rfl⟩) hx.ring.2.1 rfl rfl rfl rfl rfl selfO selfO⟩
  cases o with
  | none =>
    refine seg (s := k2O_scr) (A := fun N Q => k2O_VC tk.n n x.fr x.ct x.mt x.en x.rc (mF ms) ms.length lk tk.v (sO 4 x.il) (sO 5 x.ol) i tk.o (oO x.il) (oO x.ol) N Q ()) XRd_ok rfl (by kernel_rfl) slR (fun x => lkT n ms lk tk x i) (fun x => Inv n (i + 1) x) next (fun N Q' => k2O_vc tk.n n x.fr x.ct x.mt x.en x.rc (mF ms) ms.length lk tk.v (sO 4 x.il) (sO 5 x.ol) i tk.o (oO x.il) (oO x.ol) N Q' ()) ?_
    exact done
  | some p =>
    obtain ⟨fb, m⟩ := p
    refine seg (s := k2F_scr) (A := fun N Q => k2F_VC tk.n n x.fr x.ct x.mt x.en x.rc (mF ms) ms.length lk tk.v (sO 4 x.il) (sO 5 x.ol) i tk.o (oO x.il) (oO x.ol) fb m N Q ()) XRd_ok rfl (by kernel_rfl) slR (fun x => lkT n ms lk tk x i) (fun x => Inv n (i + 1) x) next (fun N Q' => k2F_vc tk.n n x.fr x.ct x.mt x.en x.rc (mF ms) ms.length lk tk.v (sO 4 x.il) (sO 5 x.ol) i tk.o (oO x.il) (oO x.ol) fb m N Q' ()) ?_
    cases fb with
    | true =>
      simp only [k2F_VC, f2, f3, m0 hi, m1 hi, m2 hi, m3 hi, m4 hi, m5 hi, m6 hi, AV.toI, isI_me, Bool.false_eq_true, Bool.true_eq_false, false_implies, true_implies, true_and, and_true]
      exact ⟨done, done⟩
    | false =>
      simp only [k2F_VC, Bool.false_eq_true, Bool.true_eq_false, false_implies, true_implies, true_and, and_true]
      exact done
/-- One is taken, or none. -/
theorem seg3 {x : LkX} {i : Nat} (hx : Inv n (i + 1) x) (hi : i < ms.length) (hm : ms.length ≤ 100) {d : Code} {Q : Exit → AF → AH → Prop} (next : ∀ x : LkX, Inv n (i + 1) x → WP Try.prog tk.n d Q (lkT n ms lk tk x i).1 (lkT n ms lk tk x i).2) :
    WP Try.prog tk.n (seqs lkS3 d) Q (lkT n ms lk tk x i).1 (lkT n ms lk tk x i).2 := by
  have hn0 := hx.n0
  have hole := hx.ole
  have hib := hx.ib
  have f0 : decide ((i : Int) < 0) = false := decide_eq_false (by omega)
  have rest : ∀ {vs : List (Option AV)} {σ : AH}, vs = [some (.slice 0 0 ms.length (some lk)), some tk.v, some (.int .i64 (n : Int)), some (.ptr 3 0), some (sO 4 x.il), some (sO 5 x.ol), some (.int .i64 (i : Int))] → σ.get 0 = .ro (mF ms) → σ.get 1 = tk.o → σ.get 2 = .cells 33 x.rc → σ.get 3 = lkObj n x.fr x.ct x.mt x.en → (oO x.il = .dead ∨ σ.get 4 = oO x.il) → (oO x.ol = .dead ∨ σ.get 5 = oO x.ol) →
      ∃ j gs, Inv n (i + 1) j ∧ FitsS tk.n gs slR 162 vs σ (lkT n ms lk tk j i).1 (lkT n ms lk tk j i).2 := fun hv g0 g1 g2 g3 g4 g5 => ⟨x, lkGs 4 5, hx, fitR (.inl ⟨rfl, rfl⟩) hx.ring.2.1 hv g0 g1 g2 g3 g4 g5⟩
  cases tk with
  | no =>
    refine seg (s := k3X_scr) (A := fun N Q => k3X_VC 1 n x.fr x.ct x.mt x.en x.rc (mF ms) ms.length lk (sO 4 x.il) (sO 5 x.ol) i .dead (oO x.il) (oO x.ol) N Q ()) XRd_ok rfl (by kernel_rfl) slR (fun x => lkT n ms lk .no x i) (fun x => Inv n (i + 1) x) next (fun N Q' => k3X_vc 1 n x.fr x.ct x.mt x.en x.rc (mF ms) ms.length lk (sO 4 x.il) (sO 5 x.ol) i .dead (oO x.il) (oO x.ol) N Q' ()) ?_
    simp only [k3X_VC, f0, Bool.false_eq_true, Bool.true_eq_false, false_implies, true_implies, true_and, and_true]
    exact rest rfl rfl rfl rfl rfl selfO selfO
  | em =>
    refine seg (s := k3E_scr) (A := fun N Q => k3E_VC 1 n x.fr x.ct x.mt x.en x.rc (mF ms) ms.length lk (sO 4 x.il) (sO 5 x.ol) i (oO x.il) (oO x.ol) N Q ()) XRd_ok rfl (by kernel_rfl) slR (fun x => lkT n ms lk .em x i) (fun x => Inv n (i + 1) x) next (fun N Q' => k3E_vc 1 n x.fr x.ct x.mt x.en x.rc (mF ms) ms.length lk (sO 4 x.il) (sO 5 x.ol) i (oO x.il) (oO x.ol) N Q' ()) ?_
    simp only [k3E_VC, f0, Bool.false_eq_true, Bool.true_eq_false, false_implies, true_implies, true_and, and_true]
    exact rest rfl rfl rfl rfl rfl selfO selfO
  | so bl c =>
    by_cases hb : i < bl.length
    case neg =>
      have f1 : decide ((i : Int) < (bl.length : Int)) = false := by simp; omega
      by_cases hi0 : x.il = []
      · have ho0 : x.ol = [] := List.length_eq_zero_iff.1 (by rw [hi0] at hole; simpa using hole)
        rw [lkT_eq (iv := .nilslice) (ov := .nilslice) (a4 := .dead) (a5 := .dead) (by rw [hi0]; rfl) (by rw [ho0]; rfl) (by rw [hi0]; rfl) (by rw [ho0]; rfl)]
        refine seg (s := k3NN_scr) (A := fun N Q => k3NN_VC 2 n x.fr x.ct x.mt x.en x.rc (mF ms) ms.length lk i .dead .dead bl.length c (bF bl) N Q ()) XRd_ok rfl (by kernel_rfl) slR (fun x => lkT n ms lk (.so bl c) x i) (fun x => Inv n (i + 1) x) next (fun N Q' => k3NN_vc 2 n x.fr x.ct x.mt x.en x.rc (mF ms) ms.length lk i .dead .dead bl.length c (bF bl) N Q' ()) ?_
        simp only [k3NN_VC, f1, Bool.false_eq_true, Bool.true_eq_false, false_implies, true_implies, true_and, and_true]
        exact rest (by rw [hi0, ho0]; rfl) rfl rfl rfl rfl (by rw [hi0]; exact .inl rfl) (by rw [ho0]; exact .inl rfl)
      · by_cases ho0 : x.ol = []
        · rw [lkT_eq (iv := .slice 4 0 x.il.length none) (ov := .nilslice) (a4 := .opn 33 7 (mF x.il)) (a5 := .dead) (sO_ne hi0) (by rw [ho0]; rfl) (oO_ne hi0) (by rw [ho0]; rfl)]
          refine seg (s := k3SN_scr) (A := fun N Q => k3SN_VC 2 n x.fr x.ct x.mt x.en x.rc (mF ms) ms.length lk i .dead bl.length c (bF bl) x.il.length (mF x.il) N Q ()) XRd_ok rfl (by kernel_rfl) slR (fun x => lkT n ms lk (.so bl c) x i) (fun x => Inv n (i + 1) x) next (fun N Q' => k3SN_vc 2 n x.fr x.ct x.mt x.en x.rc (mF ms) ms.length lk i .dead bl.length c (bF bl) x.il.length (mF x.il) N Q' ()) ?_
          simp only [k3SN_VC, f1, Bool.false_eq_true, Bool.true_eq_false, false_implies, true_implies, true_and, and_true]
          exact rest (by rw [sO_ne hi0, ho0]; rfl) rfl rfl rfl rfl (by rw [oO_ne hi0]; exact .inr rfl) (by rw [ho0]; exact .inl rfl)
        · rw [lkT_eq (iv := .slice 4 0 x.il.length none) (ov := .slice 5 0 x.ol.length none) (a4 := .opn 33 7 (mF x.il)) (a5 := .opn 33 7 (mF x.ol)) (sO_ne hi0) (sO_ne ho0) (oO_ne hi0) (oO_ne ho0)]
          refine seg (s := k3SS_scr) (A := fun N Q => k3SS_VC 2 n x.fr x.ct x.mt x.en x.rc (mF ms) ms.length lk i bl.length c (bF bl) x.il.length (mF x.il) x.ol.length (mF x.ol) N Q ()) XRd_ok rfl (by kernel_rfl) slR (fun x => lkT n ms lk (.so bl c) x i) (fun x => Inv n (i + 1) x) next (fun N Q' => k3SS_vc 2 n x.fr x.ct x.mt x.en x.rc (mF ms) ms.length lk i bl.length c (bF bl) x.il.length (mF x.il) x.ol.length (mF x.ol) N Q' ()) ?_
          simp only [k3SS_VC, f1, Bool.false_eq_true, Bool.true_eq_false, false_implies, true_implies, true_and, and_true]
          exact rest (by rw [sO_ne hi0, sO_ne ho0]; rfl) rfl rfl rfl rfl (by rw [oO_ne hi0]; exact .inr rfl) (by rw [oO_ne ho0]; exact .inr rfl)
    case pos =>
      have f1 : decide ((i : Int) < (bl.length : Int)) = true := by simp; omega
      have f2 : decide (0 ≤ (i : Int) ∧ (i : Int) < (bl.length : Int)) = true := by simp; omega
      have f3 : decide (0 + Int.toNat (i : Int) * 1 < (bF bl).length) = true := by simp [bF]; omega
      have hq : rowAt x.rc x.fr.toNat = ⟨qI x.rc x.fr 0, qI x.rc x.fr 1, qI x.rc x.fr 2, qI x.rc x.fr 3, qI x.rc x.fr 4, qI x.rc x.fr 5, qI x.rc x.fr 6⟩ := rfl
      have hct : x.ct = 0 ↔ ¬ x.ol.length < x.il.length := by unfold LkX.ct; omega
      have took : ∀ {b5 : Nat} {vs : List (Option AV)} {σ : AH}, (b5 = 8 ∨ b5 = 7) → x.ol.length < x.il.length → vs = [some (.slice 0 0 ms.length (some lk)), some (Tk.so bl c).v, some (.int .i64 (n : Int)), some (.ptr 3 0), some (sO 4 x.il), some (.slice b5 0 (x.ol.length + 1) none), some (.int .i64 (i : Int))] → σ.get 0 = .ro (mF ms) → σ.get 1 = (Tk.so bl c).o → σ.get 2 = .cells 33 x.rc → σ.get 3 = lkObj n (nxF n x.fr) (x.ct - 1) x.mt x.en → (oO x.il = .dead ∨ σ.get 4 = oO x.il) → σ.get b5 = .opn 33 7 (mF x.ol ++ (rowAt x.rc x.fr.toNat).cells) →
          ∃ j gs, Inv n (i + 1) j ∧ FitsS 2 gs slR 162 vs σ (lkT n ms lk (.so bl c) j i).1 (lkT n ms lk (.so bl c) j i).2 := by
        intro b5 vs σ h5 hlt hv g0 g1 g2 g3 g4 g5
        have hne : (x.take n).ol ≠ [] := app_ne
        have hbk : bOk 4 b5 := by
          rcases h5 with rfl | rfl
          · exact .inr (.inr (.inl ⟨rfl, rfl⟩))
          · exact .inr (.inr (.inr ⟨rfl, rfl⟩))
        refine ⟨x.take n, lkGs 4 b5, hx.take hlt, fitR (n := n) (ms := ms) (lk := lk) (tk := .so bl c) (x := x.take n) (i := i) hbk hx.ring.2.1 ?_ g0 g1 g2 ?_ g4 (.inr ?_)⟩
        · rw [hv, sO_ne hne, show (x.take n).ol.length = x.ol.length + 1 from by simp [LkX.take]]
          rfl
        · rw [g3, show (x.take n).ct = x.ct - 1 from by unfold LkX.ct; simp only [LkX.take, List.length_append, List.length_singleton]; omega]
          rfl
        · rw [g5, oO_ne hne, show (x.take n).ol = x.ol ++ [rowAt x.rc x.fr.toNat] from rfl, mF_app]
          rfl
      by_cases hi0 : x.il = []
      · have ho0 : x.ol = [] := List.length_eq_zero_iff.1 (by rw [hi0] at hole; simpa using hole)
        rw [lkT_eq (iv := .nilslice) (ov := .nilslice) (a4 := .dead) (a5 := .dead) (by rw [hi0]; rfl) (by rw [ho0]; rfl) (by rw [hi0]; rfl) (by rw [ho0]; rfl)]
        refine seg (s := k3NN_scr) (A := fun N Q => k3NN_VC 2 n x.fr x.ct x.mt x.en x.rc (mF ms) ms.length lk i .dead .dead bl.length c (bF bl) N Q ()) XRd_ok rfl (by kernel_rfl) slR (fun x => lkT n ms lk (.so bl c) x i) (fun x => Inv n (i + 1) x) next (fun N Q' => k3NN_vc 2 n x.fr x.ct x.mt x.en x.rc (mF ms) ms.length lk i .dead .dead bl.length c (bF bl) N Q' ()) ?_
        have hc0 : x.ct = 0 := by rw [hct, hi0]; simp
        have same : ∀ {vs : List (Option AV)} {σ : AH}, vs = [some (.slice 0 0 ms.length (some lk)), some (Tk.so bl c).v, some (.int .i64 (n : Int)), some (.ptr 3 0), some .nilslice, some .nilslice, some (.int .i64 (i : Int))] → σ.get 0 = .ro (mF ms) → σ.get 1 = (Tk.so bl c).o → σ.get 2 = .cells 33 x.rc → σ.get 3 = lkObj n x.fr x.ct x.mt x.en → ∃ j gs, Inv n (i + 1) j ∧ FitsS 2 gs slR 162 vs σ (lkT n ms lk (.so bl c) j i).1 (lkT n ms lk (.so bl c) j i).2 :=
          fun hv g0 g1 g2 g3 => rest (by rw [hi0, ho0]; exact hv) g0 g1 g2 g3 (by rw [hi0]; exact .inl rfl) (by rw [ho0]; exact .inl rfl)
        simp only [k3NN_VC, f1, f2, f3, bF_get hb, AV.isB, AV.toB, Bool.false_eq_true, Bool.true_eq_false, false_implies, true_implies, true_and, and_true]
        exact ⟨fun _ => ⟨hx.ok, fun _ => same rfl rfl rfl rfl rfl, fun h => absurd hc0 h⟩, fun _ => same rfl rfl rfl rfl rfl⟩
      · by_cases ho0 : x.ol = []
        · rw [lkT_eq (iv := .slice 4 0 x.il.length none) (ov := .nilslice) (a4 := .opn 33 7 (mF x.il)) (a5 := .dead) (sO_ne hi0) (by rw [ho0]; rfl) (oO_ne hi0) (by rw [ho0]; rfl)]
          refine seg (s := k3SN_scr) (A := fun N Q => k3SN_VC 2 n x.fr x.ct x.mt x.en x.rc (mF ms) ms.length lk i .dead bl.length c (bF bl) x.il.length (mF x.il) N Q ()) XRd_ok rfl (by kernel_rfl) slR (fun x => lkT n ms lk (.so bl c) x i) (fun x => Inv n (i + 1) x) next (fun N Q' => k3SN_vc 2 n x.fr x.ct x.mt x.en x.rc (mF ms) ms.length lk i .dead bl.length c (bF bl) x.il.length (mF x.il) N Q' ()) ?_
          have hlt : x.ol.length < x.il.length := by rw [ho0]; exact List.length_pos_iff.2 hi0
          have f4 : decide ((x.il.length : Int) > 0) = true := by simpa using List.length_pos_iff.2 hi0
          have hc1 : ¬ x.ct = 0 := fun h => hct.1 h hlt
          simp only [k3SN_VC, f1, f2, f3, f4, bF_get hb, AV.isB, AV.toB, Bool.false_eq_true, Bool.true_eq_false, false_implies, true_implies, true_and, and_true, beq_self_eq_true, Bool.not_true, Bool.not_false]
          exact ⟨fun _ => ⟨hx.ok, fun h => absurd h hc1, fun _ => took (.inl rfl) hlt (by rw [sO_ne hi0, ho0]; rfl) rfl rfl rfl rfl (by rw [oO_ne hi0]; exact .inr rfl) (by rw [ho0]; rfl)⟩, fun _ => rest (by rw [sO_ne hi0, ho0]; rfl) rfl rfl rfl rfl (by rw [oO_ne hi0]; exact .inr rfl) (by rw [ho0]; exact .inl rfl)⟩
        · rw [lkT_eq (iv := .slice 4 0 x.il.length none) (ov := .slice 5 0 x.ol.length none) (a4 := .opn 33 7 (mF x.il)) (a5 := .opn 33 7 (mF x.ol)) (sO_ne hi0) (sO_ne ho0) (oO_ne hi0) (oO_ne ho0)]
          refine seg (s := k3SS_scr) (A := fun N Q => k3SS_VC 2 n x.fr x.ct x.mt x.en x.rc (mF ms) ms.length lk i bl.length c (bF bl) x.il.length (mF x.il) x.ol.length (mF x.ol) N Q ()) XRd_ok rfl (by kernel_rfl) slR (fun x => lkT n ms lk (.so bl c) x i) (fun x => Inv n (i + 1) x) next (fun N Q' => k3SS_vc 2 n x.fr x.ct x.mt x.en x.rc (mF ms) ms.length lk i bl.length c (bF bl) x.il.length (mF x.il) x.ol.length (mF x.ol) N Q' ()) ?_
          have f5 : decide (0 < x.ol.length) = true := by simpa using List.length_pos_iff.2 ho0
          have f6 : decide (x.ol.length * 7 = (mF x.ol).length) = true := by rw [mF_len]; simp
          have f7 : decide ((x.ol.length + 1) * 56 ≤ 140737488355328) = true := by simp; omega
          have f8 : decide (x.ol.length + 1 ≤ 140737488355328) = true := by simp; omega
          have same : ∀ {vs : List (Option AV)} {σ : AH}, vs = [some (.slice 0 0 ms.length (some lk)), some (Tk.so bl c).v, some (.int .i64 (n : Int)), some (.ptr 3 0), some (.slice 4 0 x.il.length none), some (.slice 5 0 x.ol.length none), some (.int .i64 (i : Int))] → σ.get 0 = .ro (mF ms) → σ.get 1 = (Tk.so bl c).o → σ.get 2 = .cells 33 x.rc → σ.get 3 = lkObj n x.fr x.ct x.mt x.en → σ.get 4 = .opn 33 7 (mF x.il) → σ.get 5 = .opn 33 7 (mF x.ol) → ∃ j gs, Inv n (i + 1) j ∧ FitsS 2 gs slR 162 vs σ (lkT n ms lk (.so bl c) j i).1 (lkT n ms lk (.so bl c) j i).2 :=
            fun hv g0 g1 g2 g3 g4 g5 => rest (by rw [sO_ne hi0, sO_ne ho0]; exact hv) g0 g1 g2 g3 (by rw [oO_ne hi0]; exact .inr g4) (by rw [oO_ne ho0]; exact .inr g5)
          by_cases hlt : x.ol.length < x.il.length
          · have f4 : decide ((x.il.length : Int) > (x.ol.length : Int)) = true := by simpa using hlt
            have hc1 : ¬ x.ct = 0 := fun h => hct.1 h hlt
            simp only [k3SS_VC, f1, f2, f3, f4, f5, f6, f7, f8, bF_get hb, AV.isB, AV.toB, Bool.false_eq_true, Bool.true_eq_false, false_implies, true_implies, true_and, and_true, beq_self_eq_true, Bool.not_true, Bool.not_false]
            exact ⟨fun _ => ⟨hx.ok, fun h => absurd h hc1, fun _ => took (.inl rfl) hlt (by rw [sO_ne hi0]; rfl) rfl rfl rfl rfl (by rw [oO_ne hi0]; exact .inr rfl) rfl⟩, fun _ => same rfl rfl rfl rfl rfl rfl rfl⟩
          · have f4 : decide ((x.il.length : Int) > (x.ol.length : Int)) = false := decide_eq_false (by omega)
            have hc1 : x.ct = 0 := hct.2 hlt
            simp only [k3SS_VC, f1, f2, f3, f4, f5, f6, f7, f8, bF_get hb, AV.isB, AV.toB, Bool.false_eq_true, Bool.true_eq_false, false_implies, true_implies, true_and, and_true, beq_self_eq_true, Bool.not_true, Bool.not_false]
            exact ⟨fun _ => ⟨hx.ok, fun _ => same rfl rfl rfl rfl rfl rfl rfl, fun h => absurd hc1 h⟩, fun _ => same rfl rfl rfl rfl rfl rfl rfl⟩
/-- The counts, behind each round. -/
theorem seg4 {x : LkX} {i : Nat} (hx : Inv n (i + 1) x) (hi : i < ms.length) (hm : ms.length ≤ 100) {Q : Exit → AF → AH → Prop} (next : ∀ (x : LkX) gs fr σ, Inv n (i + 1) x → Fits tk.n gs fr σ (lkT n ms lk tk x i).1 (lkT n ms lk tk x i).2 → Q .normal fr σ) :
    WP Try.prog tk.n lkS4 Q (lkT n ms lk tk x i).1 (lkT n ms lk tk x i).2 := by
  have hn0 := hx.n0
  have hn9 := hx.n9
  have hole := hx.ole
  have hib := hx.ib
  have hc : x.ct = (x.il.length : Int) - (x.ol.length : Int) := by unfold LkX.ct; omega
  have f1 : (!decide ((n : Int) > 0)) = false := by simpa using hn0
  have w1 : IntKind.i64.wrap ((n : Int) - x.ct) = (n : Int) - x.ct := wrap_in (by rw [hc]; omega) (by rw [hc]; omega)
  have w2 : IntKind.i64.wrap (x.ct + ((n : Int) - x.ct)) = (n : Int) := by rw [show x.ct + ((n : Int) - x.ct) = (n : Int) by omega]; exact wrap_in (by omega) (by omega)
  by_cases hi0 : x.il = []
  · have ho0 : x.ol = [] := List.length_eq_zero_iff.1 (by rw [hi0] at hole; simpa using hole)
    have hc0 : decide (x.ct = 0) = true := by rw [hc, hi0, ho0]; rfl
    rw [lkT_eq (iv := .nilslice) (ov := .nilslice) (a4 := .dead) (a5 := .dead) (by rw [hi0]; rfl) (by rw [ho0]; rfl) (by rw [hi0]; rfl) (by rw [ho0]; rfl)]
    refine segE (s := k4NN_scr) (A := fun N Q => k4NN_VC tk.n n x.fr x.ct x.mt x.en x.rc (mF ms) ms.length lk tk.v i tk.o .dead .dead N Q ()) XRd_ok rfl (by kernel_rfl) slR (fun x => lkT n ms lk tk x i) (fun x => Inv n (i + 1) x) next (fun N Q' => k4NN_vc tk.n n x.fr x.ct x.mt x.en x.rc (mF ms) ms.length lk tk.v i tk.o .dead .dead N Q' ()) ?_
    simp only [k4NN_VC, f1, hc0, w1, w2, decide_true, Bool.false_eq_true, Bool.true_eq_false, false_implies, true_implies, true_and, and_true, Bool.not_true, Bool.not_false]
    exact ⟨x, lkGs 4 5, hx, fitR (.inl ⟨rfl, rfl⟩) hx.ring.2.1 (by rw [hi0, ho0]; rfl) rfl rfl rfl rfl (by rw [hi0]; exact .inl rfl) (by rw [ho0]; exact .inl rfl)⟩
  · by_cases ho0 : x.ol = []
    · have hc0 : decide (x.ct = (x.il.length : Int)) = true := by rw [hc, ho0]; simp
      have w3 : IntKind.i64.wrap ((x.il.length : Int) - 0) = (x.il.length : Int) := by rw [wrap_in (by omega) (by omega)]; omega
      have w4 : IntKind.i64.wrap (x.il.length : Int) = (x.il.length : Int) := wrap_in (by omega) (by omega)
      rw [lkT_eq (iv := .slice 4 0 x.il.length none) (ov := .nilslice) (a4 := .opn 33 7 (mF x.il)) (a5 := .dead) (sO_ne hi0) (by rw [ho0]; rfl) (oO_ne hi0) (by rw [ho0]; rfl)]
      refine segE (s := k4SN_scr) (A := fun N Q => k4SN_VC tk.n n x.fr x.ct x.mt x.en x.rc (mF ms) ms.length lk tk.v i tk.o (.opn 33 7 (mF x.il)) .dead x.il.length N Q ()) XRd_ok rfl (by kernel_rfl) slR (fun x => lkT n ms lk tk x i) (fun x => Inv n (i + 1) x) next (fun N Q' => k4SN_vc tk.n n x.fr x.ct x.mt x.en x.rc (mF ms) ms.length lk tk.v i tk.o (.opn 33 7 (mF x.il)) .dead x.il.length N Q' ()) ?_
      simp only [k4SN_VC, f1, w3, w4, hc0, w1, w2, decide_true, Bool.false_eq_true, Bool.true_eq_false, false_implies, true_implies, true_and, and_true, Bool.not_true, Bool.not_false]
      exact ⟨x, lkGs 4 5, hx, fitR (.inl ⟨rfl, rfl⟩) hx.ring.2.1 (by rw [sO_ne hi0, ho0]; rfl) rfl rfl rfl rfl (by rw [oO_ne hi0]; exact .inr rfl) (by rw [ho0]; exact .inl rfl)⟩
    · have w3 : IntKind.i64.wrap ((x.il.length : Int) - (x.ol.length : Int)) = x.ct := by rw [wrap_in (by omega) (by omega)]; exact hc.symm
      rw [lkT_eq (iv := .slice 4 0 x.il.length none) (ov := .slice 5 0 x.ol.length none) (a4 := .opn 33 7 (mF x.il)) (a5 := .opn 33 7 (mF x.ol)) (sO_ne hi0) (sO_ne ho0) (oO_ne hi0) (oO_ne ho0)]
      refine segE (s := k4SS_scr) (A := fun N Q => k4SS_VC tk.n n x.fr x.ct x.mt x.en x.rc (mF ms) ms.length lk tk.v i tk.o (.opn 33 7 (mF x.il)) (.opn 33 7 (mF x.ol)) x.il.length x.ol.length N Q ()) XRd_ok rfl (by kernel_rfl) slR (fun x => lkT n ms lk tk x i) (fun x => Inv n (i + 1) x) next (fun N Q' => k4SS_vc tk.n n x.fr x.ct x.mt x.en x.rc (mF ms) ms.length lk tk.v i tk.o (.opn 33 7 (mF x.il)) (.opn 33 7 (mF x.ol)) x.il.length x.ol.length N Q' ()) ?_
      simp only [k4SS_VC, f1, w3, w1, w2, decide_true, Bool.false_eq_true, Bool.true_eq_false, false_implies, true_implies, true_and, and_true, Bool.not_true, Bool.not_false]
      exact ⟨x, lkGs 4 5, hx, fitR (.inl ⟨rfl, rfl⟩) hx.ring.2.1 (by rw [sO_ne hi0, sO_ne ho0]) rfl rfl rfl rfl (by rw [oO_ne hi0]; exact .inr rfl) (by rw [oO_ne ho0]; exact .inr rfl)⟩
/-- The next round. -/
theorem segI {x : LkX} {i : Nat} (hx : Inv n (i + 1) x) (hi : i < ms.length) (hm : ms.length ≤ 100) {Q : Exit → AF → AH → Prop} (next : ∀ (x : LkX) gs fr σ, Inv n (i + 1) x → Fits tk.n gs fr σ (lkT n ms lk tk x (i + 1)).1 (lkT n ms lk tk x (i + 1)).2 → Q .normal fr σ) :
    WP Try.prog tk.n lkI Q (lkT n ms lk tk x i).1 (lkT n ms lk tk x i).2 := by
  have w1 : IntKind.i64.wrap ((i : Int) + 1) = ((i + 1 : Nat) : Int) := by rw [wrap_in (by omega) (by omega)]; omega
  refine segE (s := kI_scr) (A := fun N Q => kI_VC tk.n n ms.length lk tk.v (sO 4 x.il) (sO 5 x.ol) i (lkHp n ms tk x) N Q ()) XRd_ok rfl (by kernel_rfl) slR (fun x => lkT n ms lk tk x (i + 1)) (fun x => Inv n (i + 1) x) next (fun N Q' => kI_vc tk.n n ms.length lk tk.v (sO 4 x.il) (sO 5 x.ol) i (lkHp n ms tk x) N Q' ()) ?_
  simp only [kI_VC, w1]
  exact ⟨x, lkGs 4 5, hx, fitR (.inl ⟨rfl, rfl⟩) hx.ring.2.1 rfl rfl rfl rfl rfl selfO selfO⟩
/-- The round's head. -/
theorem segH {x : LkX} {i : Nat} (hx : Inv n i x) (hi : i ≤ ms.length) {d : Code} {Q : Exit → AF → AH → Prop} (next : i < ms.length → WP Try.prog tk.n d Q (lkT n ms lk tk x i).1 (lkT n ms lk tk x i).2) (out : i = ms.length → Q (.exit 0) (lkT n ms lk tk x i).1 (lkT n ms lk tk x i).2) :
    WP Try.prog tk.n (seqs [lkH] d) Q (lkT n ms lk tk x i).1 (lkT n ms lk tk x i).2 := by
  have self : FitsS tk.n (lkGs 4 5) slR 162 [some (.slice 0 0 ms.length (some lk)), some tk.v, some (.int .i64 (n : Int)), some (.ptr 3 0), some (sO 4 x.il), some (sO 5 x.ol), some (.int .i64 (i : Int))] (lkHp n ms tk x) (lkT n ms lk tk x i).1 (lkT n ms lk tk x i).2 :=
    fitR (.inl ⟨rfl, rfl⟩) hx.ring.2.1 rfl rfl rfl rfl rfl selfO selfO
  refine seg (s := kH_scr) (A := fun N Q => kH_VC tk.n n ms.length lk tk.v (sO 4 x.il) (sO 5 x.ol) i (lkHp n ms tk x) N Q ()) XRd_ok rfl (by kernel_rfl) slR (fun _ : Unit => lkT n ms lk tk x i) (fun _ => i < ms.length) (fun _ h => next h) (fun N Q' => kH_vc tk.n n ms.length lk tk.v (sO 4 x.il) (sO 5 x.ol) i (lkHp n ms tk x) N Q' ()) ?_
  refine ⟨fun h => ?_, fun h => ?_⟩
  · have h' : i < ms.length := by simpa using h
    exact ⟨(), _, h', self⟩
  · have h' : i = ms.length := by simp at h; omega
    exact ⟨_, _, _, self, out h'⟩
/-- What the loop leaves. -/
def lkQ (n : Nat) (ms : List Mg) (lk : Nat) (tk : Tk) (e : Exit) (fr : AF) (σ : AH) : Prop := e = .exit 0 ∧ ∃ x, Inv n ms.length x ∧ fr = (lkT n ms lk tk x ms.length).1 ∧ σ = (lkT n ms lk tk x ms.length).2
theorem lk_loop (hm : ms.length ≤ 100) {x : LkX} (hx : Inv n 0 x) : WL Try.prog tk.n lkBody (lkQ n ms lk tk) (lkT n ms lk tk x 0).1 (lkT n ms lk tk x 0).2 := by
  refine WL_fam (ι := {p : LkX × Nat // Inv n p.2 p.1 ∧ p.2 ≤ ms.length}) (fun p => lkT n ms lk tk p.1.1 p.1.2) (fun p => ms.length - p.1.2) ?_ ⟨(x, 0), hx, Nat.zero_le _⟩
  rintro ⟨⟨x, i⟩, hx, hi⟩
  show WP Try.prog tk.n lkBody _ (lkT n ms lk tk x i).1 (lkT n ms lk tk x i).2
  rw [lkBody_eq]
  refine segH hx hi (fun hlt => ?_) (fun he => ?_)
  · refine WP.seqBlock ?_
    rw [lkB_eq]
    refine seg1 hx hlt hm fun y hy => seg2 hy hlt fun x hx => seg3 hx hlt hm fun x hx => seg4 hx hlt hm fun x gs fr σ hx hf => ?_
    refine WP.refine (segI hx hlt hm ?_) hf.refines
    intro x gs fr σ hx hf
    exact ⟨⟨(x, i + 1), hx, hlt⟩, gs, by show ms.length - (i + 1) < ms.length - i; omega, hf⟩
  · subst he
    exact ⟨rfl, x, hx, rfl, rfl⟩
end
end Go.Proofs.Ytfamikdibjhnpaa.V
