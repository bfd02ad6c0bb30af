/- keys: lists of touches (part 7): two lists compared; what Press answers, by the program and by the document. -/
import Derived.Test.YteneafgmcmgahaaKpZ
namespace Go.Proofs.Yteneafgmcmgahaa.V
open Go Go.Proofs
set_option maxRecDepth 100000
set_option maxHeartbeats 4000000
set_option linter.unusedSimpArgs false
set_option linter.unusedVariables false
theorem t_wl {l : List Tc} (hl : l.length ≤ 1000) : WL Try.prog 2 (loopAt Try.prog 8 0) (fun e fr σ => e = .exit 0 ∧ fr = ⟨26, []⟩ ∧ σ = tHp (tcs l)) (tFr l.length 0) (tHp (tcs l)) := by
  have hp := pfs_tcs l
  have key := loop_fam (X := XK1) XK1_ok (n0 := 2) (b := 0) (c := loopAt Try.prog 8 0) (sy := symC Try.prog (bodyOf Try.prog 8) []) (by kernel_rfl) rfl [0, 1, 5] (ι := {i : Nat // i ≤ l.length}) (fun i => (tFr l.length (i.1 : Int), tHp (tcs l))) (fun i => l.length - i.1) (fun e fr σ => e = .exit 0 ∧ fr = ⟨26, []⟩ ∧ σ = tHp (tcs l)) (fun _ => tR_scr)
    (fun i N Q => tR_VC l.length (i.1 : Int) (tcs l) N Q ()) (fun i N Q => tR_vc l.length (i.1 : Int) (tcs l) N Q ()) ?_ ⟨0, Nat.zero_le _⟩
  · exact key
  rintro ⟨i, hi⟩
  unfold tR_VC
  refine ⟨fun hd => ?_, fun hd => ?_⟩
  · have hlt : i < l.length := by simpa using hd
    obtain ⟨g0, g1, g2, g3⟩ := tcs_facts hlt
    have e1 : decide (0 ≤ (i : Int) ∧ (i : Int) < (l.length : Int)) = true := decide_eq_true ⟨by omega, by omega⟩
    have e2 : decide (0 + Int.toNat (i : Int) * 4 + 4 ≤ (tcs l).length) = true := by rw [tcs_len]; exact decide_eq_true (by simp; omega)
    have w1 : IntKind.wrap IntKind.i64 ((i : Int) + 1) = ((i + 1 : Nat) : Int) := by rw [wrap_in (by omega) (by omega)]; omega
    rw [g0, g1, g2, g3, w1, e1, e2]
    refine ⟨rfl, rfl, rfl, rfl, rfl, rfl, rfl, rfl, rfl, rfl, rfl, rfl, fun h => ?_, fun _ => ?_⟩
    · simp at h
    · exact ⟨⟨i + 1, hlt⟩, [(0, 0), (1, 1)], (show l.length - (i + 1) < l.length - i by omega), rfl, ⟨.inr ⟨hp, rfl⟩, .inr ⟨hp, rfl⟩, trivial⟩, rfl, ⟨rfl, rfl, rfl, trivial⟩⟩
  · have hge : ¬ ((i : Int) < (l.length : Int)) := of_decide_eq_false hd
    obtain rfl : i = l.length := by omega
    exact ⟨[(0, 0), (1, 1)], (⟨26, []⟩ : AF), tHp (tcs l), ⟨rfl, ⟨.inr ⟨hp, rfl⟩, .inr ⟨hp, rfl⟩, trivial⟩, rfl, trivial⟩, rfl, rfl, rfl⟩
def LTt (l : List Tc) : LTr := fun n0 fr σ s K => need (n0 = 2) ∧ need (Fits 2 [(0, 0), (1, 1)] fr σ (tFr l.length 0) (tHp (tcs l))) ∧ need (l.length ≤ 1000) ∧ K (.exit 0) ⟨26, []⟩ (tHp (tcs l)) s
theorem LTt_ok (l : List Tc) : LOk Try.prog (loopAt Try.prog 8 0) (LTt l) := by
  rintro n0 fr σ s Q ⟨h0, hf, hp, hq⟩
  cases (h0 : n0 = 2)
  intro E a w hE hs
  refine (WL.less (t_wl hp) ?_) E a w hE (Fits.refines hf E hE a w hs)
  rintro e fr σ ⟨rfl, rfl, rfl⟩
  exact ⟨_, _, fun E _ a w h => h, s, hq⟩
noncomputable def XTt (l : List Tc) : Cx := ⟨Try.prog, purT purK1, purO purK1, purK1.map (·.1), 20, lookL [(0, LTt l)]⟩
theorem XTt_ok (l : List Tc) : CxOk (XTt l) := ⟨purT_ok purK1_ok, purO_ok purK1_ok, mixedky⟩
theorem pra_loops : loopsOf (bodyOf Try.prog 6) 0 = [(0, loopAt Try.prog 6 0), (2, loopAt Try.prog 6 1)] := by kernel_rfl
theorem prb_loops : loopsOf (bodyOf Try.prog 7) 0 = [(0, loopAt Try.prog 7 0), (2, loopAt Try.prog 7 1)] := by kernel_rfl
/-- Press's outcome, the list in the block b. -/
def prQ (fr to : Int) (ks : List Int) (b : Nat) (x : AV) (τ : AH) : Prop :=
  (chkN (l2 fr to ks) ≠ 0 → x = .tup [.nilslice, .int .i64 (chkN (l2 fr to ks))]) ∧ (chkN (l2 fr to ks) = 0 → x = .tup [.slice b 0 (ks.length + ks.length) none, .int .i64 0] ∧ τ.get b = .opn 39 4 (tcs (l2 fr to ks)))
theorem pra_sc {fr to : Int} {ks : List Int} (hk : prOk ks) : SC Try.prog 6 [.int .i64 fr, .int .i64 to, .slice 0 0 ks.length none] (hK ks) (prQ fr to ks 2) := by
  show SC (XPa fr to ks).P 6 _ (hK ks) (prQ fr to ks 2)
  refine sc_of_vcH (X := XPa fr to ks) (XPa_ok fr to ks) (f := 6) (by kernel_rfl) ?_ (K := prQ fr to ks 2) (pra_vc fr to ks (prQ fr to ks 2)) ?_
  · intro p hx L hL
    rw [show (XPa fr to ks).P = Try.prog from rfl, pra_loops] at hx
    simp only [List.mem_cons, List.not_mem_nil, or_false] at hx
    rcases hx with rfl | rfl
    · cases hL
    · have : L = LA fr to ks := (Option.some.inj hL).symm
      subst this
      exact LA_ok fr to ks
  · have hp1 := pfs_tcs (l1 fr ks)
    have he := pfs_encI (k := .i64) (zs := ks)
    obtain ⟨k1, k2⟩ := id hk
    unfold pra_VC
    refine ⟨rfl, ⟨rfl, ⟨.inr ⟨he, rfl⟩, ⟨rfl, .inr ⟨rfl, rfl⟩⟩, trivial, trivial⟩, rfl, ⟨rfl, rfl, rfl, rfl, rfl, rfl, rfl, rfl, rfl, rfl, rfl, rfl, trivial⟩⟩, hk,
      rfl, ⟨rfl, ⟨.inr ⟨he, rfl⟩, ⟨rfl, .inr ⟨rfl, rfl⟩⟩, ⟨rfl, rfl, .inr ⟨hp1, rfl⟩⟩, trivial⟩, rfl, ⟨rfl, rfl, rfl, rfl, rfl, rfl, rfl, rfl, rfl, rfl, rfl, rfl, trivial⟩⟩, hk, rfl, (show (2 : Nat) < 3 by decide), (l2_len fr to ks).symm, ?_, fun h => ?_, fun h => ?_⟩
    · show (l2 fr to ks).length ≤ 1000
      rw [l2_len]; omega
    · have hne : chkN (l2 fr to ks) ≠ 0 := by simpa using h
      exact ⟨fun _ => rfl, fun q => absurd q hne⟩
    · have heq : chkN (l2 fr to ks) = 0 := by simpa using h
      exact ⟨fun q => absurd heq q, fun _ => ⟨rfl, rfl⟩⟩
theorem prb_sc {c : Option Nat} {fr to : Int} {ks : List Int} (hk : prOk ks) : SC Try.prog 7 [.int .i64 fr, .int .i64 to, .slice 0 0 ks.length c] (hK ks) (prQ fr to ks 1) := by
  show SC (XPb c fr to ks).P 7 _ (hK ks) (prQ fr to ks 1)
  refine sc_of_vcH (X := XPb c fr to ks) (XPb_ok c fr to ks) (f := 7) (by kernel_rfl) ?_ (K := prQ fr to ks 1) (prb_vc c fr to ks (prQ fr to ks 1)) ?_
  · intro p hx L hL
    rw [show (XPb c fr to ks).P = Try.prog from rfl, prb_loops] at hx
    simp only [List.mem_cons, List.not_mem_nil, or_false] at hx
    rcases hx with rfl | rfl
    · have : L = LB c fr to ks := (Option.some.inj hL).symm
      subst this
      exact LB_ok c fr to ks
    · have : L = LD c fr to ks := (Option.some.inj hL).symm
      subst this
      exact LD_ok c fr to ks
  · have hp1 := pfs_tcs (l1 fr ks)
    have he := pfs_encI (k := .i64) (zs := ks)
    obtain ⟨k1, k2⟩ := id hk
    unfold prb_VC
    refine ⟨rfl, ⟨rfl, ⟨.inr ⟨he, rfl⟩, trivial, trivial⟩, rfl, ⟨rfl, rfl, rfl, rfl, rfl, trivial⟩⟩, hk,
      rfl, ⟨rfl, ⟨.inr ⟨he, rfl⟩, ⟨rfl, rfl, .inr ⟨hp1, rfl⟩⟩, trivial⟩, rfl, ⟨rfl, rfl, rfl, rfl, rfl, trivial⟩⟩, hk, rfl, (show (1 : Nat) < 2 by decide), (l2_len fr to ks).symm, ?_, fun h => ?_, fun h => ?_⟩
    · show (l2 fr to ks).length ≤ 1000
      rw [l2_len]; omega
    · have hne : chkN (l2 fr to ks) ≠ 0 := by simpa using h
      exact ⟨fun _ => rfl, fun q => absurd q hne⟩
    · have heq : chkN (l2 fr to ks) = 0 := by simpa using h
      exact ⟨fun q => absurd heq q, fun _ => ⟨rfl, rfl⟩⟩
end Go.Proofs.Yteneafgmcmgahaa.V
