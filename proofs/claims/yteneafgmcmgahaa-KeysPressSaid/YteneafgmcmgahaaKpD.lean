/- keys: lists of touches (part 3): what Check answers, by the program and by the document. -/
import Derived.Test.YteneafgmcmgahaaKpW
import Derived.Test.YteneafgmcmgahaaKpX
namespace Go.Proofs.Yteneafgmcmgahaa.V
open Go Go.Proofs
set_option maxRecDepth 100000
set_option maxHeartbeats 4000000
set_option linter.unusedSimpArgs false
set_option linter.unusedVariables false
theorem pfs_app : ∀ {a b : List AV}, pfs a = true → pfs b = true → pfs (a ++ b) = true
  | [], _, _, h => h
  | x :: a, b, h, k => by
    simp only [pfs, Bool.and_eq_true] at h
    simp only [List.cons_append, pfs, h.1, pfs_app h.2 k, Bool.and_self]
theorem pfs_tcs : ∀ l : List Tc, pfs (tcs l) = true
  | [] => rfl
  | x :: l => by
    unfold tcs
    rw [List.flatMap_cons]
    exact pfs_app rfl (pfs_tcs l)
theorem tcs_facts {l : List Tc} {i : Nat} (h : i < l.length) :
    List.getD (tcs l) (0 + Int.toNat (i : Int) * 4) (.tup []) = .int .i64 (tAt l i).1 ∧ List.getD (tcs l) (0 + Int.toNat (i : Int) * 4 + 1) (.tup []) = .int .i64 (tAt l i).2.1 ∧
    List.getD (tcs l) (0 + Int.toNat (i : Int) * 4 + 1 + 1) (.tup []) = .int .i64 (tAt l i).2.2.1 ∧ List.getD (tcs l) (0 + Int.toNat (i : Int) * 4 + 1 + 1 + 1) (.tup []) = .bool (tAt l i).2.2.2 := by
  have g := tcs_get h
  refine ⟨?_, ?_, ?_, ?_⟩
  · rw [show 0 + Int.toNat (i : Int) * 4 = i * 4 + 0 by simp]; exact (g 0 (by decide)).trans rfl
  · rw [show 0 + Int.toNat (i : Int) * 4 + 1 = i * 4 + 1 by simp]; exact (g 1 (by decide)).trans rfl
  · rw [show 0 + Int.toNat (i : Int) * 4 + 1 + 1 = i * 4 + 2 by simp]; exact (g 2 (by decide)).trans rfl
  · rw [show 0 + Int.toNat (i : Int) * 4 + 1 + 1 + 1 = i * 4 + 3 by simp]; exact (g 3 (by decide)).trans rfl
theorem tcs_fact0 {l : List Tc} {i : Nat} (h : i < l.length) : List.getD (tcs l) (0 + Int.toNat (i : Int) * 4 + 0) (.tup []) = .int .i64 (tAt l i).1 := (tcs_facts h).1
def cQ (l : List Tc) (e : Exit) (fr : AF) (σ : AH) : Prop := (okTo l l.length = true ∧ e = .exit 0 ∧ fr = (cE (tcs l)).1 ∧ σ = (cE (tcs l)).2) ∨ (okTo l l.length = false ∧ e = .ret ∧ fr = (cB (tcs l)).1 ∧ σ = (cB (tcs l)).2)
theorem c_wl {l : List Tc} (hl : l.length ≤ 1000) : WL Try.prog 1 (loopAt Try.prog 16 0) (cQ l) (cSt l.length 0 (tcs l)).1 (cSt l.length 0 (tcs l)).2 := by
  have hp := pfs_tcs l
  have key := loop_fam (X := XK1) XK1_ok (n0 := 1) (b := 0) (c := loopAt Try.prog 16 0) (sy := symC Try.prog (bodyOf Try.prog 16) []) (by kernel_rfl) rfl [0, 2, 8, 9, 10] (ι := {i : Nat // i ≤ l.length ∧ okTo l i = true}) (fun i => cSt l.length (i.1 : Int) (tcs l)) (fun i => l.length - i.1) (cQ l) (fun _ => cR_scr)
    (fun i N Q => cR_VC l.length (i.1 : Int) (tcs l) N Q ()) (fun i N Q => cR_vc l.length (i.1 : Int) (tcs l) N Q ()) ?_ ⟨0, Nat.zero_le _, rfl⟩
  · exact key
  rintro ⟨i, hi, hok⟩
  unfold cR_VC
  refine ⟨fun hd => ?_, fun hd => ?_⟩
  · have hlt : i < l.length := by simpa using hd
    obtain ⟨g0, g1, g2, g3⟩ := tcs_facts hlt
    have e1 : decide (0 ≤ (i : Int) ∧ (i : Int) < (l.length : Int)) = true := decide_eq_true ⟨by omega, by omega⟩
    have e2 : decide (0 + Int.toNat (i : Int) * 4 + 4 ≤ (tcs l).length) = true := by rw [tcs_len]; exact decide_eq_true (by simp; omega)
    have w1 : IntKind.wrap IntKind.i64 ((i : Int) + 1) = ((i + 1 : Nat) : Int) := by rw [wrap_in (by omega) (by omega)]; omega
    have next : okAt l i = true → ∀ garb : AObj, ∃ (j : {i : Nat // i ≤ l.length ∧ okTo l i = true}) (gs : List (Nat × Nat)), l.length - j.1 < l.length - i ∧ FitsS 1 gs [0, 2, 8, 9, 10] 34 [some (.slice 0 0 l.length none), none, some (.slice 0 0 l.length none), some (.int .i64 (l.length : Int)), some (.int .i64 ((i + 1 : Nat) : Int))] ⟨2, [(1, garb), (0, .ro (tcs l))]⟩ (cSt l.length (j.1 : Int) (tcs l)).1 (cSt l.length (j.1 : Int) (tcs l)).2 := by
      intro hk garb
      refine ⟨⟨i + 1, hlt, by simp only [okTo, hok, hk, Bool.and_self]⟩, [(0, 0)], (show l.length - (i + 1) < l.length - i by omega), rfl, ⟨.inr ⟨hp, rfl⟩, trivial⟩, rfl, ⟨rfl, rfl, rfl, rfl, trivial⟩⟩
    have stop : okAt l i = false → ∀ garb : AObj, ∃ (gs : List (Nat × Nat)) (fr' : AF) (σ' : AH), FitsS 1 gs [0, 2, 8, 9, 10] 34 [some (.slice 0 0 l.length none), some (.int .i64 2), some (.slice 0 0 l.length none), some (.int .i64 (l.length : Int)), some (.int .i64 (i : Int))] ⟨2, [(1, garb), (0, .ro (tcs l))]⟩ fr' σ' ∧ cQ l .ret fr' σ' := by
      intro hk garb
      refine ⟨[(0, 0)], (cB (tcs l)).1, (cB (tcs l)).2, ⟨rfl, ⟨.inr ⟨hp, rfl⟩, trivial⟩, rfl, ⟨rfl, trivial⟩⟩, .inr ⟨?_, rfl, rfl, rfl⟩⟩
      cases hq : okTo l l.length with
      | false => rfl
      | true =>
        have := okTo_le (show i + 1 ≤ l.length by omega) hq
        simp only [okTo, hok, hk, Bool.and_false] at this
        cases this
    rw [g0, g1, g2, g3, w1, e1, e2]
    simp only [AV.toI, AV.toB, AV.isI, AV.isB, decide_true, beq_self_eq_true, true_and]
    by_cases hb : tchB (tAt l i).1 (tAt l i).2.1 (tAt l i).2.2.1 = true
    · by_cases h0 : i = 0
      · have hk : okAt l i = true := by unfold okAt; rw [hb]; simp [h0]
        have d0 : decide ((i : Int) > 0) = false := by simp [h0]
        rw [hb, d0]
        simp only [Bool.not_true, Bool.not_false, Bool.true_eq_false, Bool.false_eq_true, false_implies, true_implies, true_and, and_true]
        exact next hk _
      · have d0 : decide ((i : Int) > 0) = true := by simp; omega
        have w2 : IntKind.wrap IntKind.i64 ((i : Int) - 1) = ((i - 1 : Nat) : Int) := by rw [wrap_in (by omega) (by omega)]; omega
        have gp := tcs_fact0 (l := l) (i := i - 1) (by omega)
        have e3 : decide (0 ≤ ((i - 1 : Nat) : Int) ∧ ((i - 1 : Nat) : Int) < (l.length : Int)) = true := decide_eq_true ⟨by omega, by omega⟩
        have e4 : decide (0 + Int.toNat ((i - 1 : Nat) : Int) * 4 + 0 < (tcs l).length) = true := by rw [tcs_len]; exact decide_eq_true (by simp; omega)
        rw [hb, d0, w2, gp, e3, e4]
        simp only [AV.toI, AV.isI, decide_true, beq_self_eq_true, Bool.not_true, Bool.not_false, Bool.true_eq_false, Bool.false_eq_true, false_implies, true_implies, true_and, and_true]
        refine ⟨fun hc => stop ?_ _, fun hc => next ?_ _⟩
        · have hc := of_decide_eq_true hc
          unfold okAt
          rw [hb]
          simp [h0, hc]
        · have hc := of_decide_eq_false hc
          unfold okAt
          rw [hb]
          simp only [Bool.true_and, Bool.or_eq_true, Bool.not_eq_true', decide_eq_false_iff_not]
          exact .inr hc
    · have hb : tchB (tAt l i).1 (tAt l i).2.1 (tAt l i).2.2.1 = false := by simpa using hb
      have hk : okAt l i = false := by unfold okAt; simp [hb]
      rw [hb]
      simp only [Bool.not_true, Bool.not_false, Bool.true_eq_false, Bool.false_eq_true, false_implies, true_implies, true_and, and_true]
      exact stop hk _
  · have hge : ¬ ((i : Int) < (l.length : Int)) := of_decide_eq_false hd
    obtain rfl : i = l.length := by omega
    exact ⟨[(0, 0)], (cE (tcs l)).1, (cE (tcs l)).2, ⟨rfl, ⟨.inr ⟨hp, rfl⟩, trivial⟩, rfl, trivial⟩, .inl ⟨hok, rfl, rfl, rfl⟩⟩
theorem tch_eq (t w k : Int) : tchB t w k = (mayTB t && ((decide (w = 1) && decide (k ≥ 0) && decide (k < 40)) || (decide (w = 2) && decide (k = 0)))) := by
  unfold tchB mayTB
  by_cases h1 : t < 0
  · have : ¬ 0 ≤ t := by omega
    simp [h1, this]
  · by_cases h2 : t > 1099511627776
    · have : ¬ t ≤ 1099511627776 := by omega
      simp [h1, h2, this]
    · have e1 : 0 ≤ t := by omega
      have e2 : t ≤ 1099511627776 := by omega
      rw [if_neg (by omega)]
      by_cases h3 : w = 1
      · simp [h3, e1, e2]
      · by_cases h4 : w = 2 <;> simp [h3, h4, e1, e2]
theorem okAt_eq (l : List Tc) (i : Nat) : okAt l i = (mayTB (tAt l i).1 && ((decide ((tAt l i).2.1 = 1) && decide ((tAt l i).2.2.1 ≥ 0) && decide ((tAt l i).2.2.1 < 40)) || (decide ((tAt l i).2.1 = 2) && decide ((tAt l i).2.2.1 = 0))) && (!decide ((i : Int) > 0) || !decide ((tAt l (i - 1)).1 > (tAt l i).1))) := by
  unfold okAt
  rw [tch_eq]
  have e : (decide (i = 0) || !decide ((tAt l i).1 < (tAt l (i - 1)).1)) = (!decide ((i : Int) > 0) || !decide ((tAt l (i - 1)).1 > (tAt l i).1)) := by
    by_cases h : i = 0
    · simp [h]
    · have : (i : Int) > 0 := by omega
      simp [h, this]
  rw [e]
def rQ (l : List Tc) (e : Exit) (fr : AF) (σ : AH) : Prop := (okTo l l.length = true ∧ e = .exit 0 ∧ fr = (rE (tcs l)).1 ∧ σ = (rE (tcs l)).2) ∨ (okTo l l.length = false ∧ e = .ret ∧ fr = (rB (tcs l)).1 ∧ σ = (rB (tcs l)).2)
theorem r_wl {l : List Tc} (hl : l.length ≤ 1000) : WL Try.prog 1 (loopAt Try.prog 17 0) (rQ l) (rSt l.length 0 (tcs l)).1 (rSt l.length 0 (tcs l)).2 := by
  have hp := pfs_tcs l
  have key := loop_fam (X := XK1) XK1_ok (n0 := 1) (b := 0) (c := loopAt Try.prog 17 0) (sy := symC Try.prog (bodyOf Try.prog 17) []) (by kernel_rfl) rfl [0, 2, 3] (ι := {i : Nat // i ≤ l.length ∧ okTo l i = true}) (fun i => rSt l.length (i.1 : Int) (tcs l)) (fun i => l.length - i.1) (rQ l) (fun _ => rR_scr)
    (fun i N Q => rR_VC l.length (i.1 : Int) (tcs l) N Q ()) (fun i N Q => rR_vc l.length (i.1 : Int) (tcs l) N Q ()) ?_ ⟨0, Nat.zero_le _, rfl⟩
  · exact key
  rintro ⟨i, hi, hok⟩
  unfold rR_VC
  refine ⟨fun hd => ?_, fun hd => ?_⟩
  · have hlt : i < l.length := by simpa using hd
    obtain ⟨g0, g1, g2, g3⟩ := tcs_facts hlt
    have e1 : decide (0 ≤ (i : Int) ∧ (i : Int) < (l.length : Int)) = true := decide_eq_true ⟨by omega, by omega⟩
    have e2 : decide (0 + Int.toNat (i : Int) * 4 + 4 ≤ (tcs l).length) = true := by rw [tcs_len]; exact decide_eq_true (by simp; omega)
    have w1 : IntKind.wrap IntKind.i64 ((i : Int) + 1) = ((i + 1 : Nat) : Int) := by rw [wrap_in (by omega) (by omega)]; omega
    have next : okAt l i = true → ∀ garb : AObj, ∃ (j : {i : Nat // i ≤ l.length ∧ okTo l i = true}) (gs : List (Nat × Nat)), l.length - j.1 < l.length - i ∧ FitsS 1 gs [0, 2, 3] 65 [some (.slice 0 0 l.length none), none, some (.int .i64 ((i + 1 : Nat) : Int))] ⟨2, [(1, garb), (0, .ro (tcs l))]⟩ (rSt l.length (j.1 : Int) (tcs l)).1 (rSt l.length (j.1 : Int) (tcs l)).2 := by
      intro hk garb
      refine ⟨⟨i + 1, hlt, by simp only [okTo, hok, hk, Bool.and_self]⟩, [(0, 0)], (show l.length - (i + 1) < l.length - i by omega), rfl, ⟨.inr ⟨hp, rfl⟩, trivial⟩, rfl, ⟨rfl, rfl, trivial⟩⟩
    have stop : okAt l i = false → ∀ garb : AObj, ∃ (gs : List (Nat × Nat)) (fr' : AF) (σ' : AH), FitsS 1 gs [0, 2, 3] 65 [some (.slice 0 0 l.length none), some (.int .i64 2), some (.int .i64 (i : Int))] ⟨2, [(1, garb), (0, .ro (tcs l))]⟩ fr' σ' ∧ rQ l .ret fr' σ' := by
      intro hk garb
      refine ⟨[(0, 0)], (rB (tcs l)).1, (rB (tcs l)).2, ⟨rfl, ⟨.inr ⟨hp, rfl⟩, trivial⟩, rfl, ⟨rfl, trivial⟩⟩, .inr ⟨?_, rfl, rfl, rfl⟩⟩
      cases hq : okTo l l.length with
      | false => rfl
      | true =>
        have := okTo_le (show i + 1 ≤ l.length by omega) hq
        simp only [okTo, hok, hk, Bool.and_false] at this
        cases this
    have prev : (i : Int) > 0 → (0 ≤ IntKind.wrap IntKind.i64 ((i : Int) - 1) ∧ IntKind.wrap IntKind.i64 ((i : Int) - 1) < (l.length : Int)) ∧ 0 + Int.toNat (IntKind.wrap IntKind.i64 ((i : Int) - 1)) * 4 + 0 < (tcs l).length ∧ AV.toI (List.getD (tcs l) (0 + Int.toNat (IntKind.wrap IntKind.i64 ((i : Int) - 1)) * 4 + 0) (.tup [])) = (tAt l (i - 1)).1 ∧ AV.isI .i64 (List.getD (tcs l) (0 + Int.toNat (IntKind.wrap IntKind.i64 ((i : Int) - 1)) * 4 + 0) (.tup [])) = true := by
      intro hpos
      have w2 : IntKind.wrap IntKind.i64 ((i : Int) - 1) = ((i - 1 : Nat) : Int) := by rw [wrap_in (by omega) (by omega)]; omega
      rw [w2, tcs_len]
      exact ⟨⟨by omega, by omega⟩, by simp; omega, by rw [tcs_fact0 (l := l) (i := i - 1) (by omega)]; rfl, by rw [tcs_fact0 (l := l) (i := i - 1) (by omega)]; rfl⟩
    have t0 : AV.toI (List.getD (tcs l) (0 + Int.toNat (i : Int) * 4) (.tup [])) = (tAt l i).1 := by rw [g0]; rfl
    have t1 : AV.toI (List.getD (tcs l) (0 + Int.toNat (i : Int) * 4 + 1) (.tup [])) = (tAt l i).2.1 := by rw [g1]; rfl
    have t2 : AV.toI (List.getD (tcs l) (0 + Int.toNat (i : Int) * 4 + 1 + 1) (.tup [])) = (tAt l i).2.2.1 := by rw [g2]; rfl
    have t3 : AV.toB (List.getD (tcs l) (0 + Int.toNat (i : Int) * 4 + 1 + 1 + 1) (.tup [])) = (tAt l i).2.2.2 := by rw [g3]; rfl
    have i0 : AV.isI .i64 (List.getD (tcs l) (0 + Int.toNat (i : Int) * 4) (.tup [])) = true := by rw [g0]; rfl
    have i1 : AV.isI .i64 (List.getD (tcs l) (0 + Int.toNat (i : Int) * 4 + 1) (.tup [])) = true := by rw [g1]; rfl
    have i2 : AV.isI .i64 (List.getD (tcs l) (0 + Int.toNat (i : Int) * 4 + 1 + 1) (.tup [])) = true := by rw [g2]; rfl
    have i3 : AV.isB (List.getD (tcs l) (0 + Int.toNat (i : Int) * 4 + 1 + 1 + 1) (.tup [])) = true := by rw [g3]; rfl
    rw [t0, t1, t2, t3, i0, i1, i2, i3, w1, e1, e2]
    simp only [true_and]
    rw [okAt_eq] at next stop
    generalize AObj.cells 39 [AV.int IntKind.i64 (tAt l i).1, AV.int IntKind.i64 (tAt l i).2.1, AV.int IntKind.i64 (tAt l i).2.2.1, AV.bool (tAt l i).2.2.2] = garb
    have next := fun h => next h garb
    have stop := fun h => stop h garb
    by_cases hpos : (i : Int) > 0
    · obtain ⟨p1, p2, p3, p4⟩ := prev hpos
      rw [decide_eq_true p1, decide_eq_true p2, p3, p4]
      rw [decide_eq_true hpos] at next stop ⊢
      generalize mayTB (tAt l i).1 = bm at *
      generalize decide ((tAt l i).2.1 = 1) = b1 at *
      generalize decide ((tAt l i).2.1 = 2) = b2 at *
      generalize decide ((tAt l i).2.2.1 ≥ 0) = b3 at *
      generalize decide ((tAt l i).2.2.1 < 40) = b4 at *
      generalize decide ((tAt l i).2.2.1 = 0) = b5 at *
      generalize decide ((tAt l (i - 1)).1 > (tAt l i).1) = b6 at *
      clear prev
      cases b1 <;> cases b2 <;> cases b3 <;> cases b4 <;> cases b5 <;> cases bm <;> cases b6 <;>
        simp only [Bool.not_true, Bool.not_false, Bool.true_eq_false, Bool.false_eq_true, false_implies, true_implies, true_and, and_true, Bool.and_true, Bool.true_and, Bool.and_false, Bool.false_and, Bool.or_true, Bool.true_or, Bool.or_false, Bool.false_or] at next stop ⊢ <;>
        first | exact next | exact stop
    · rw [decide_eq_false hpos] at next stop ⊢
      generalize mayTB (tAt l i).1 = bm at *
      generalize decide ((tAt l i).2.1 = 1) = b1 at *
      generalize decide ((tAt l i).2.1 = 2) = b2 at *
      generalize decide ((tAt l i).2.2.1 ≥ 0) = b3 at *
      generalize decide ((tAt l i).2.2.1 < 40) = b4 at *
      generalize decide ((tAt l i).2.2.1 = 0) = b5 at *
      clear prev
      cases b1 <;> cases b2 <;> cases b3 <;> cases b4 <;> cases b5 <;> cases bm <;>
        simp only [Bool.not_true, Bool.not_false, Bool.true_eq_false, Bool.false_eq_true, false_implies, true_implies, true_and, and_true, Bool.and_true, Bool.true_and, Bool.and_false, Bool.false_and, Bool.or_true, Bool.true_or, Bool.or_false, Bool.false_or] at next stop ⊢ <;>
        first | exact next | exact stop
  · have hge : ¬ ((i : Int) < (l.length : Int)) := of_decide_eq_false hd
    obtain rfl : i = l.length := by omega
    exact ⟨[(0, 0)], (rE (tcs l)).1, (rE (tcs l)).2, ⟨rfl, ⟨.inr ⟨hp, rfl⟩, trivial⟩, rfl, trivial⟩, .inl ⟨hok, rfl, rfl, rfl⟩⟩
end Go.Proofs.Yteneafgmcmgahaa.V
