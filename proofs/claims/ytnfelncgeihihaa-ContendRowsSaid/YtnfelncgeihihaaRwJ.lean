/- contend: rows of requests (part 8): what Row answers, over memory that it only reads. contend: rows of requests (part 9): Row, called in any memory that begins with the requests and the slow ones. -/
import Derived.Test.YtnfelncgeihihaaRwH
namespace Go.Proofs.Ytnfelncgeihihaa.V
open Go Go.Proofs
set_option maxRecDepth 100000
set_option linter.unusedSimpArgs false
set_option linter.unusedVariables false
theorem sc_of_vcH {X : Cx} {f : Nat} (hX : CxOk X) (hd : okFunsX X.P [f] = true) (hl : ∀ p ∈ loopsOf (bodyOf X.P f) 0, ∀ L, X.lps p.1 = some L → LOk X.P p.2 L) {xs : List AV} {σ : AH} {s : Plan} {K : AV → AH → Prop} {A : Prop} (e : funP X f xs σ s (fun v σ _ => K v σ) = A) (h : A) : SC X.P f xs σ K :=
  (funP_sound hX hd hl xs σ s _ (e.mpr h)).mono (fun v σ ⟨s, q⟩ => q)
theorem lookL_one'' {k j : Nat} {L L' : LTr} (h : lookL [(k, L)] j = some L') : j = k ∧ L' = L := by
  simp only [lookL] at h
  split at h
  · rename_i hk
    exact ⟨(Nat.eq_of_beq_eq_true hk).symm, (Option.some.inj h).symm⟩
  · cases h
theorem rowN_sc {L C T R F W U t : Int} {rq : List Rq} {bs : List AV} {c : Nat} (h : rowOksN L C T R F W U t rq bs) : SC Try.prog 45 [.agg [.int .i64 L, .int .i64 C, .int .i64 T, .int .i64 R, .int .i64 F, .int .i64 W, .int .i64 U], .slice 0 0 rq.length (some c), .nilslice, .int .i64 t] ⟨2, [(1, .ro bs), (0, .ro (qF rq))]⟩
    (fun u τ => u = .tup [.slice 3 0 rq.length none, .int .i64 (rowE L C T R F W U rq (fun _ => false) t rq.length), .int .i64 0] ∧ τ.get 3 = .opn 2 1 (encI .i64 (rowAcc L C T R F W U rq (fun _ => false) t rq.length))) := by
  refine sc_of_vcH (XRwN_ok L C T R F W U t rq bs c) (by kernel_rfl) ?_ (rwN_vc L C T R F W U t rq bs c _) ?_
  · intro p hp' l hl
    obtain ⟨h0, rfl⟩ := lookL_one'' hl
    rw [show (XRwN L C T R F W U t rq bs c).P = Try.prog from rfl, rw_loops] at hp'
    simp only [List.mem_cons, List.not_mem_nil, or_false] at hp'
    subst hp'
    exact LRwN_ok L C T R F W U t rq bs c
  · unfold rwN_VC
    exact ⟨rfl, ⟨rfl, ⟨.inr ⟨pfs_qF, rfl⟩, .inr ⟨h.1, rfl⟩, ⟨rfl, .inr ⟨rfl, rfl⟩⟩, trivial⟩, rfl, ⟨rfl, rfl, rfl, rfl, rfl, rfl, rfl, trivial⟩⟩, h, rfl, rfl⟩
theorem rowE_sc {L C T R F W U t : Int} {rq : List Rq} {bs : List AV} {c : Nat} (h : rowOksE L C T R F W U t rq bs) : SC Try.prog 45 [.agg [.int .i64 L, .int .i64 C, .int .i64 T, .int .i64 R, .int .i64 F, .int .i64 W, .int .i64 U], .slice 0 0 rq.length (some c), (.slice 1 0 0 none), .int .i64 t] ⟨2, [(1, .ro bs), (0, .ro (qF rq))]⟩
    (fun u τ => u = .tup [.slice 3 0 rq.length none, .int .i64 (rowE L C T R F W U rq (fun _ => false) t rq.length), .int .i64 0] ∧ τ.get 3 = .opn 2 1 (encI .i64 (rowAcc L C T R F W U rq (fun _ => false) t rq.length))) := by
  refine sc_of_vcH (XRwE_ok L C T R F W U t rq bs c) (by kernel_rfl) ?_ (rwE_vc L C T R F W U t rq bs c _) ?_
  · intro p hp' l hl
    obtain ⟨h0, rfl⟩ := lookL_one'' hl
    rw [show (XRwE L C T R F W U t rq bs c).P = Try.prog from rfl, rw_loops] at hp'
    simp only [List.mem_cons, List.not_mem_nil, or_false] at hp'
    subst hp'
    exact LRwE_ok L C T R F W U t rq bs c
  · unfold rwE_VC
    exact ⟨rfl, ⟨rfl, ⟨.inr ⟨pfs_qF, rfl⟩, .inr ⟨h.1, rfl⟩, ⟨rfl, .inr ⟨rfl, rfl⟩⟩, trivial⟩, rfl, ⟨rfl, rfl, rfl, rfl, rfl, rfl, rfl, trivial⟩⟩, h, rfl, rfl⟩
theorem rowS_sc {L C T R F W U t : Int} {rq : List Rq} {bl : List Bool} {c cm : Nat} (h : rowOksS L C T R F W U t rq bl) : SC Try.prog 45 [.agg [.int .i64 L, .int .i64 C, .int .i64 T, .int .i64 R, .int .i64 F, .int .i64 W, .int .i64 U], .slice 0 0 rq.length (some c), (.slice 1 0 bl.length (some cm)), .int .i64 t] ⟨2, [(1, .ro (bF bl)), (0, .ro (qF rq))]⟩
    (fun u τ => u = .tup [.slice 3 0 rq.length none, .int .i64 (rowE L C T R F W U rq (fun i => bl.getD i false) t rq.length), .int .i64 0] ∧ τ.get 3 = .opn 2 1 (encI .i64 (rowAcc L C T R F W U rq (fun i => bl.getD i false) t rq.length))) := by
  refine sc_of_vcH (XRwS_ok L C T R F W U t rq bl c cm) (by kernel_rfl) ?_ (rwS_vc L C T R F W U t rq bl c cm _) ?_
  · intro p hp' l hl
    obtain ⟨h0, rfl⟩ := lookL_one'' hl
    rw [show (XRwS L C T R F W U t rq bl c cm).P = Try.prog from rfl, rw_loops] at hp'
    simp only [List.mem_cons, List.not_mem_nil, or_false] at hp'
    subst hp'
    exact LRwS_ok L C T R F W U t rq bl c cm
  · unfold rwS_VC
    exact ⟨rfl, ⟨rfl, ⟨.inr ⟨pfs_qF, rfl⟩, .inr ⟨h.1, rfl⟩, ⟨rfl, .inr ⟨rfl, rfl⟩⟩, trivial⟩, rfl, ⟨rfl, rfl, rfl, rfl, rfl, rfl, rfl, trivial⟩⟩, h, rfl, rfl⟩
end Go.Proofs.Ytnfelncgeihihaa.V
namespace Go.Proofs.Ytnfelncgeihihaa.V
open Go Go.Proofs
set_option maxRecDepth 100000
set_option linter.unusedSimpArgs false
set_option linter.unusedVariables false
def rowTrN (L C T R F W U : Int) (rq : List Rq) (bs : List AV) (c : Nat) : Tr1 := fun xs σ s K => match xs with
  | [_, _, _, .int .i64 t] => need (xs = [.agg [.int .i64 L, .int .i64 C, .int .i64 T, .int .i64 R, .int .i64 F, .int .i64 W, .int .i64 U], .slice 0 0 rq.length (some c), .nilslice, .int .i64 t]) ∧ need (σ.get 0 = .ro (qF rq)) ∧ need (σ.get 1 = .ro bs) ∧ need (2 ≤ σ.nx) ∧ need (rowOksN L C T R F W U t rq bs) ∧
      K (.tup [.slice σ.nx 0 rq.length none, .int .i64 (rowE L C T R F W U rq (fun _ => false) t rq.length), .int .i64 0]) (σ.push (.opn 2 1 (encI .i64 (rowAcc L C T R F W U rq (fun _ => false) t rq.length)))) s
  | _ => False
theorem rowTrN_ok (L C T R F W U : Int) (rq : List Rq) (bs : List AV) (c : Nat) : TrOk Try.prog 45 (rowTrN L C T R F W U rq bs c) := by
  intro xs σ s K h
  unfold rowTrN at h
  split at h
  · rename_i a1 a2 a3 t
    obtain ⟨hx, g0, g1, hle, hok, hk⟩ := h
    rw [show ([a1, a2, a3, .int .i64 t] : List AV) = [.agg [.int .i64 L, .int .i64 C, .int .i64 T, .int .i64 R, .int .i64 F, .int .i64 W, .int .i64 U], .slice 0 0 rq.length (some c), .nilslice, .int .i64 t] from hx]
    refine (SC.frame (k := 3) (σ0 := ⟨2, [(1, .ro bs), (0, .ro (qF rq))]⟩) (σ := σ) (u := .tup [.slice σ.nx 0 rq.length none, .int .i64 (rowE L C T R F W U rq (fun _ => false) t rq.length), .int .i64 0]) ?_ ?_ (show 2 ≤ σ.nx from hle) ?_ rfl pfs_encI rfl (rowN_sc (c := c) hok)).mono ?_
    · intro i hi
      have h2 : i < 2 := hi
      rcases (show i = 0 ∨ i = 1 by omega) with rfl | rfl
      · exact ⟨_, rfl, pfs_qF⟩
      · exact ⟨_, rfl, hok.1⟩
    · intro i
      by_cases i0 : i = 0
      · subst i0; rfl
      · by_cases i1 : i = 1
        · subst i1; rfl
        · simp [AH.get, lookH, Ne.symm i0, Ne.symm i1, AObj.wr]
    · intro i hi
      have h2 : i < 2 := hi
      rcases (show i = 0 ∨ i = 1 by omega) with rfl | rfl
      · exact g0
      · exact g1
    · rintro v τ ⟨rfl, rfl⟩
      exact ⟨s, hk⟩
  · exact h.elim
def rowTrE (L C T R F W U : Int) (rq : List Rq) (bs : List AV) (c : Nat) : Tr1 := fun xs σ s K => match xs with
  | [_, _, _, .int .i64 t] => need (xs = [.agg [.int .i64 L, .int .i64 C, .int .i64 T, .int .i64 R, .int .i64 F, .int .i64 W, .int .i64 U], .slice 0 0 rq.length (some c), (.slice 1 0 0 none), .int .i64 t]) ∧ need (σ.get 0 = .ro (qF rq)) ∧ need (σ.get 1 = .ro bs) ∧ need (2 ≤ σ.nx) ∧ need (rowOksE L C T R F W U t rq bs) ∧
      K (.tup [.slice σ.nx 0 rq.length none, .int .i64 (rowE L C T R F W U rq (fun _ => false) t rq.length), .int .i64 0]) (σ.push (.opn 2 1 (encI .i64 (rowAcc L C T R F W U rq (fun _ => false) t rq.length)))) s
  | _ => False
theorem rowTrE_ok (L C T R F W U : Int) (rq : List Rq) (bs : List AV) (c : Nat) : TrOk Try.prog 45 (rowTrE L C T R F W U rq bs c) := by
  intro xs σ s K h
  unfold rowTrE at h
  split at h
  · rename_i a1 a2 a3 t
    obtain ⟨hx, g0, g1, hle, hok, hk⟩ := h
    rw [show ([a1, a2, a3, .int .i64 t] : List AV) = [.agg [.int .i64 L, .int .i64 C, .int .i64 T, .int .i64 R, .int .i64 F, .int .i64 W, .int .i64 U], .slice 0 0 rq.length (some c), (.slice 1 0 0 none), .int .i64 t] from hx]
    refine (SC.frame (k := 3) (σ0 := ⟨2, [(1, .ro bs), (0, .ro (qF rq))]⟩) (σ := σ) (u := .tup [.slice σ.nx 0 rq.length none, .int .i64 (rowE L C T R F W U rq (fun _ => false) t rq.length), .int .i64 0]) ?_ ?_ (show 2 ≤ σ.nx from hle) ?_ rfl pfs_encI rfl (rowE_sc (c := c) hok)).mono ?_
    · intro i hi
      have h2 : i < 2 := hi
      rcases (show i = 0 ∨ i = 1 by omega) with rfl | rfl
      · exact ⟨_, rfl, pfs_qF⟩
      · exact ⟨_, rfl, hok.1⟩
    · intro i
      by_cases i0 : i = 0
      · subst i0; rfl
      · by_cases i1 : i = 1
        · subst i1; rfl
        · simp [AH.get, lookH, Ne.symm i0, Ne.symm i1, AObj.wr]
    · intro i hi
      have h2 : i < 2 := hi
      rcases (show i = 0 ∨ i = 1 by omega) with rfl | rfl
      · exact g0
      · exact g1
    · rintro v τ ⟨rfl, rfl⟩
      exact ⟨s, hk⟩
  · exact h.elim
def rowTrS (L C T R F W U : Int) (rq : List Rq) (bl : List Bool) (c cm : Nat) : Tr1 := fun xs σ s K => match xs with
  | [_, _, _, .int .i64 t] => need (xs = [.agg [.int .i64 L, .int .i64 C, .int .i64 T, .int .i64 R, .int .i64 F, .int .i64 W, .int .i64 U], .slice 0 0 rq.length (some c), (.slice 1 0 bl.length (some cm)), .int .i64 t]) ∧ need (σ.get 0 = .ro (qF rq)) ∧ need (σ.get 1 = .ro (bF bl)) ∧ need (2 ≤ σ.nx) ∧ need (rowOksS L C T R F W U t rq bl) ∧
      K (.tup [.slice σ.nx 0 rq.length none, .int .i64 (rowE L C T R F W U rq (fun i => bl.getD i false) t rq.length), .int .i64 0]) (σ.push (.opn 2 1 (encI .i64 (rowAcc L C T R F W U rq (fun i => bl.getD i false) t rq.length)))) s
  | _ => False
theorem rowTrS_ok (L C T R F W U : Int) (rq : List Rq) (bl : List Bool) (c cm : Nat) : TrOk Try.prog 45 (rowTrS L C T R F W U rq bl c cm) := by
  intro xs σ s K h
  unfold rowTrS at h
  split at h
  · rename_i a1 a2 a3 t
    obtain ⟨hx, g0, g1, hle, hok, hk⟩ := h
    rw [show ([a1, a2, a3, .int .i64 t] : List AV) = [.agg [.int .i64 L, .int .i64 C, .int .i64 T, .int .i64 R, .int .i64 F, .int .i64 W, .int .i64 U], .slice 0 0 rq.length (some c), (.slice 1 0 bl.length (some cm)), .int .i64 t] from hx]
    refine (SC.frame (k := 3) (σ0 := ⟨2, [(1, .ro (bF bl)), (0, .ro (qF rq))]⟩) (σ := σ) (u := .tup [.slice σ.nx 0 rq.length none, .int .i64 (rowE L C T R F W U rq (fun i => bl.getD i false) t rq.length), .int .i64 0]) ?_ ?_ (show 2 ≤ σ.nx from hle) ?_ rfl pfs_encI rfl (rowS_sc (c := c) (cm := cm) hok)).mono ?_
    · intro i hi
      have h2 : i < 2 := hi
      rcases (show i = 0 ∨ i = 1 by omega) with rfl | rfl
      · exact ⟨_, rfl, pfs_qF⟩
      · exact ⟨_, rfl, hok.1⟩
    · intro i
      by_cases i0 : i = 0
      · subst i0; rfl
      · by_cases i1 : i = 1
        · subst i1; rfl
        · simp [AH.get, lookH, Ne.symm i0, Ne.symm i1, AObj.wr]
    · intro i hi
      have h2 : i < 2 := hi
      rcases (show i = 0 ∨ i = 1 by omega) with rfl | rfl
      · exact g0
      · exact g1
    · rintro v τ ⟨rfl, rfl⟩
      exact ⟨s, hk⟩
  · exact h.elim
end Go.Proofs.Ytnfelncgeihihaa.V
