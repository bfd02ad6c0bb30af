/- keys: lists of touches (part 4): Check as a fact, in any memory; states of the loops that press. -/
import Derived.Test.YteneafgmcmgahaaKpD
namespace Go.Proofs.Yteneafgmcmgahaa.V
open Go Go.Proofs
set_option maxRecDepth 100000
set_option maxHeartbeats 4000000
set_option linter.unusedSimpArgs false
set_option linter.unusedVariables false
theorem sc_of_vcH {X : Cx} {f : Nat} (hX : CxOk X) (hd : okFunsX X.P [f] = true) (hl : ∀ p ∈ loopsOf (bodyOf X.P f) 0, ∀ L, X.lps p.1 = some L → LOk X.P p.2 L) {xs : List AV} {σ : AH} {s : Plan} {K : AV → AH → Prop} {A : Prop} (e : funP X f xs σ s (fun v σ _ => K v σ) = A) (h : A) : SC X.P f xs σ K :=
  (funP_sound hX hd hl xs σ s _ (e.mpr h)).mono (fun v σ ⟨s, q⟩ => q)
theorem LC_ok (l : List Tc) : LOk Try.prog (loopAt Try.prog 16 0) (LC l) := by
  rintro n0 fr σ s Q ⟨h0, hf, hp, hq1, hq2⟩
  cases (h0 : n0 = 1)
  intro E a w hE hs
  refine (WL.less (c_wl hp) ?_) E a w hE (Fits.refines hf E hE a w hs)
  rintro e fr σ (⟨ho, rfl, rfl, rfl⟩ | ⟨ho, rfl, rfl, rfl⟩)
  · exact ⟨_, _, fun E _ a w h => h, s, hq1 ho⟩
  · exact ⟨_, _, fun E _ a w h => h, s, hq2 ho⟩
theorem LR_ok (l : List Tc) : LOk Try.prog (loopAt Try.prog 17 0) (LR l) := by
  rintro n0 fr σ s Q ⟨h0, hf, hp, hq1, hq2⟩
  cases (h0 : n0 = 1)
  intro E a w hE hs
  refine (WL.less (r_wl hp) ?_) E a w hE (Fits.refines hf E hE a w hs)
  rintro e fr σ (⟨ho, rfl, rfl, rfl⟩ | ⟨ho, rfl, rfl, rfl⟩)
  · exact ⟨_, _, fun E _ a w h => h, s, hq1 ho⟩
  · exact ⟨_, _, fun E _ a w h => h, s, hq2 ho⟩
theorem ck_loops : loopsOf (bodyOf Try.prog 16) 0 = [(0, loopAt Try.prog 16 0)] := by kernel_rfl
theorem rk_loops : loopsOf (bodyOf Try.prog 17) 0 = [(0, loopAt Try.prog 17 0)] := by kernel_rfl
theorem ck_sc {l : List Tc} (hl : l.length ≤ 1000) : SC Try.prog 16 [.slice 0 0 l.length none] (hT l) (fun x _ => x = .int .i64 (chkN l)) := by
  show SC (XC l).P 16 _ (hT l) (fun x _ => x = .int .i64 (chkN l))
  refine sc_of_vcH (X := XC l) (XC_ok l) (f := 16) (by kernel_rfl) ?_ (K := fun x _ => x = .int .i64 (chkN l)) (ck_vc l (fun x _ => x = .int .i64 (chkN l))) ?_
  · intro p hx L hL
    rw [show (XC l).P = Try.prog from rfl, ck_loops] at hx
    simp only [List.mem_cons, List.not_mem_nil, or_false] at hx
    subst hx
    have : L = LC l := (Option.some.inj hL).symm
    subst this
    exact LC_ok l
  · have hp := pfs_tcs l
    unfold ck_VC
    refine ⟨fun h => ?_, fun _ => ⟨rfl, ⟨rfl, ⟨.inr ⟨hp, rfl⟩, trivial⟩, rfl, ⟨rfl, rfl, rfl, rfl, trivial⟩⟩, hl, fun h => ?_, fun h => ?_⟩⟩
    · have := of_decide_eq_true h; omega
    · unfold chkN; rw [h]; rfl
    · unfold chkN; rw [h]; rfl
theorem rk_sc {l : List Tc} (hl : l.length ≤ 1000) : SC Try.prog 17 [.slice 0 0 l.length none] (hT l) (fun x _ => x = .int .i64 (chkN l)) := by
  show SC (XR l).P 17 _ (hT l) (fun x _ => x = .int .i64 (chkN l))
  refine sc_of_vcH (X := XR l) (XR_ok l) (f := 17) (by kernel_rfl) ?_ (K := fun x _ => x = .int .i64 (chkN l)) (rk_vc l (fun x _ => x = .int .i64 (chkN l))) ?_
  · intro p hx L hL
    rw [show (XR l).P = Try.prog from rfl, rk_loops] at hx
    simp only [List.mem_cons, List.not_mem_nil, or_false] at hx
    subst hx
    have : L = LR l := (Option.some.inj hL).symm
    subst this
    exact LR_ok l
  · have hp := pfs_tcs l
    unfold rk_VC
    refine ⟨fun h => ?_, fun _ => ⟨rfl, ⟨rfl, ⟨.inr ⟨hp, rfl⟩, trivial⟩, rfl, ⟨rfl, rfl, trivial⟩⟩, hl, fun h => ?_, fun h => ?_⟩⟩
    · have := of_decide_eq_true h; omega
    · unfold chkN; rw [h]; rfl
    · unfold chkN; rw [h]; rfl
/-- Check, of a list that lies anywhere. -/
def chkT (l : List Tc) : Tr1 := fun xs σ s K => match xs with
  | [.slice b 0 m none] => need ((σ.get b).cs? = some (tcs l)) ∧ need (b < σ.nx) ∧ need (m = l.length) ∧ need (l.length ≤ 1000) ∧ K (.int .i64 (chkN l)) σ s
  | _ => False
theorem frame1 {f : Nat} {l : List Tc} {b : Nat} {σ : AH} {v : AV} (hv : v.pf = true) (hb : (σ.get b).cs? = some (tcs l)) (hlt : b < σ.nx) (h : SC Try.prog f [.slice 0 0 l.length none] (hT l) (fun x _ => x = v)) : SC Try.prog f [.slice b 0 l.length none] σ (fun x τ => x = v ∧ τ = σ) := by
  refine SC.frameZ (σ0 := hT l) (args0 := [.slice 0 0 l.length none]) (fun i => if i = 0 then some b else none) (fun x => if x = b then some 0 else none) ?_ ?_ ?_ (by simp [renL, AV.ren]) hv h
  · intro i hi
    have hi : i < 1 := hi
    obtain rfl : i = 0 := by omega
    exact ⟨b, _, _, rfl, hlt, hb, rfl, .inr ⟨pfs_tcs l, rfl⟩⟩
  · intro i
    by_cases i0 : i = 0
    · subst i0; rfl
    · simp [hT, AH.get, lookH, Ne.symm i0, AObj.wr]
  · intro x c hx
    split at hx
    · rename_i hxb
      cases hx
      exact ⟨show 0 < 1 by omega, by simp [hxb]⟩
    · cases hx
theorem ckT_tr (l : List Tc) : TrOk Try.prog 16 (chkT l) := by
  intro xs σ s K h
  unfold chkT at h
  split at h
  · rename_i b m
    obtain ⟨h1, h2, h3, h4, hk⟩ := h
    cases (h3 : m = l.length)
    refine (frame1 rfl h1 h2 (ck_sc h4)).mono ?_
    rintro v τ ⟨rfl, rfl⟩
    exact ⟨s, hk⟩
  · exact h.elim
theorem rkT_tr (l : List Tc) : TrOk Try.prog 17 (chkT l) := by
  intro xs σ s K h
  unfold chkT at h
  split at h
  · rename_i b m
    obtain ⟨h1, h2, h3, h4, hk⟩ := h
    cases (h3 : m = l.length)
    refine (frame1 rfl h1 h2 (rk_sc h4)).mono ?_
    rintro v τ ⟨rfl, rfl⟩
    exact ⟨s, hk⟩
  · exact h.elim
/-- So many touches at a time. -/
def row (t : Int) (on : Bool) (ks : List Int) : List Tc := ks.map fun k => (t, 1, k, on)
def acV (b : Nat) : Nat → AV
  | 0 => .nilslice
  | m + 1 => .slice b 0 (m + 1) none
def acO (cs : List AV) : Nat → AObj
  | 0 => .dead
  | m + 1 => .opn 39 4 cs
theorem acV_pos {b m : Nat} (h : 0 < m) : acV b m = .slice b 0 m none := by cases m <;> first | rfl | cases h
theorem acO_pos {cs : List AV} {m : Nat} (h : 0 < m) : acO cs m = .opn 39 4 cs := by cases m <;> first | rfl | cases h
def aFr (fr to t q i : Int) (n : Nat) (on : Bool) (pv : AV) : AF := ⟨46, [(0, .int .i64 fr), (1, .int .i64 to), (2, .slice 0 0 n none), (8, pv), (10, .bool on), (11, .int .i64 t), (15, .slice 1 0 2 (some 2)), (16, .int .i64 2), (17, .int .i64 q), (25, .slice 0 0 n none), (26, .int .i64 n), (27, .int .i64 i)]⟩
def aHp (cs : List AV) (o : AObj) : AH := ⟨3, [(2, o), (1, .cells 4 [.bool true, .bool false]), (0, .ro cs)]⟩
def bFr (c : Option Nat) (fr to i : Int) (n : Nat) (pv : AV) : AF := ⟨48, [(0, .int .i64 fr), (1, .int .i64 to), (2, .slice 0 0 n c), (8, pv), (9, .int .i64 i)]⟩
def dFr (c : Option Nat) (fr to i : Int) (n : Nat) (pv : AV) : AF := ⟨48, [(0, .int .i64 fr), (1, .int .i64 to), (2, .slice 0 0 n c), (8, pv), (10, .int .i64 i)]⟩
def bHp (cs : List AV) (o : AObj) : AH := ⟨2, [(1, o), (0, .ro cs)]⟩
def slA : List Nat := [0, 1, 2, 8, 10, 11, 15, 16, 17, 25, 26, 27]
end Go.Proofs.Yteneafgmcmgahaa.V
