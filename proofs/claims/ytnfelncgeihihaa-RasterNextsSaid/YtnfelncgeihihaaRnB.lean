/- raster.Next: what it finds. -/
import Derived.Test.YtnfelncgeihihaaRnV
namespace Go.Proofs.Ytnfelncgeihihaa.V
open Go Go.Proofs
set_option maxRecDepth 100000
set_option maxHeartbeats 4000000
set_option linter.unusedSimpArgs false
set_option linter.unusedVariables false
theorem XNx_ok (L C T R F W U t : Int) : CxOk (XNx L C T R F W U t) := ⟨purT_ok purRn_ok, purO_ok purRn_ok, mixed⟩
theorem XRn_lps : XRn.lps = lookL [] := rfl
theorem nxPre_iff {L C T R F W U t : Int} : nxPre L C T R F W U t = true ↔ okF L C T R F W U = true ∧ 0 ≤ t ∧ t ≤ 1099511000000 := by
  unfold nxPre; simp [and_assoc]
theorem nxLoop_wl {L C T R F W U t : Int} (hp : nxPre L C T R F W U t = true) :
    WL Try.prog 0 (loopAt Try.prog 31 0) (fun e fr σ => e = .ret ∧ fr = (nxE L C T R F W U (nxtN L C T R F W U t)).1 ∧ σ = (nxE L C T R F W U (nxtN L C T R F W U t)).2) (nxT L C T R F W U t).1 (nxT L C T R F W U t).2 := by
  obtain ⟨hk, h0, h1⟩ := nxPre_iff.1 hp
  obtain ⟨a, b, c, d, e⟩ := nxtN_spec hk h0 h1
  generalize hN : nxtN L C T R F W U t = N at *
  refine loop_fam (X := XRn) XRn_ok (by kernel_rfl) XRn_lps [1, 2, 4, 5, 6] (ι := {m : Int // t ≤ m ∧ m ≤ N}) (fun i => nxT L C T R F W U i.1) (fun i => (N - i.1).toNat) _ (fun _ => nxR_scr)
    (fun i Nn Q => nxR_VC L C T R F W U i.1 Nn Q ()) (fun i Nn Q => nxR_vc L C T R F W U i.1 Nn Q ()) ?_ ⟨t, Int.le_refl _, a⟩
  rintro ⟨m, hm1, hm2⟩
  have hz := (at_zero (t := m) hk (by omega) (by omega)).1
  have hw : IntKind.i64.wrap (m + 1) = m + 1 := wrap_in (by omega) (by omega)
  unfold nxR_VC
  refine ⟨fun _ => ⟨fun h => ?_, fun _ => ⟨fun h => ?_, fun h => ?_⟩⟩, fun h => ?_⟩
  · simp [hz] at h
  · have hev : evB L C T R F W U m = true := h
    have hmN : m = N := by
      rcases Int.lt_or_le m N with q | q
      · rw [e m hm1 q] at hev; cases hev
      · omega
    subst hmN
    exact ⟨[(0, 0), (1, 1)], (nxE L C T R F W U m).1, (nxE L C T R F W U m).2, ⟨rfl, ⟨⟨rfl, .inr ⟨rfl, rfl⟩⟩, ⟨rfl, .inr ⟨rfl, rfl⟩⟩, trivial⟩, rfl, ⟨rfl, rfl, rfl, trivial⟩⟩, rfl, rfl, rfl⟩
  · have hev : evB L C T R F W U m = false := h
    have hlt : m < N := by
      rcases Int.lt_or_le m N with q | q
      · exact q
      · have : m = N := by omega
        subst this
        rw [d] at hev; cases hev
    rw [hw]
    refine ⟨⟨m + 1, by omega, by omega⟩, [(0, 0), (1, 1)], ?_, rfl, ⟨⟨rfl, .inr ⟨rfl, rfl⟩⟩, ⟨rfl, .inr ⟨rfl, rfl⟩⟩, trivial⟩, rfl, ⟨rfl, rfl, rfl, trivial⟩⟩
    show (N - (m + 1)).toNat < (N - m).toNat
    omega
  · simp at h; omega
theorem LNx_ok (L C T R F W U t : Int) : LOk Try.prog (loopAt Try.prog 31 0) (LNx L C T R F W U t) := by
  rintro n0 fr σ s Q ⟨h0, hf, hp, hq⟩
  cases (h0 : n0 = 0)
  intro E a w hE hs
  refine (WL.less (nxLoop_wl hp) ?_) E a w hE (Fits.refines hf E hE a w hs)
  rintro e fr σ ⟨rfl, rfl, rfl⟩
  exact ⟨_, _, fun E _ a w h => h, s, hq⟩
theorem nx_loops : loopsOf (bodyOf Try.prog 31) 0 = [(0, loopAt Try.prog 31 0)] := by kernel_rfl
def nextV (L C T R F W U u : Int) : AV := .tup [.int .i64 (nxtN L C T R F W U u), .agg [.int .i64 (atD L C T R F W U (nxtN L C T R F W U u)), .int .i64 (atX L C T R F W U (nxtN L C T R F W U u)), .int .i64 (atY L C T R F W U (nxtN L C T R F W U u))], .bool true]
def nextRF : List AV → Option (Bool × AV)
  | [.agg [.int .i64 L, .int .i64 C, .int .i64 T, .int .i64 R, .int .i64 F, .int .i64 W, .int .i64 U], .int .i64 t] =>
    some (nxPre L C T R F W U (if t > 0 then t else 0), nextV L C T R F W U (if t > 0 then t else 0))
  | _ => none
theorem next_tr : TrOk Try.prog 31 (pureG nextRF) := by
  refine pureG_ok ?_
  intro xs v h
  unfold nextRF at h
  split at h
  · simp only [Option.some.injEq, Prod.mk.injEq] at h
    obtain ⟨hp, rfl⟩ := h
    rename_i L C T R F W U t
    refine ⟨rfl, rfl, ?_⟩
    refine (funP_sound (XNx_ok L C T R F W U (if t > 0 then t else 0)) (f := 31) (by kernel_rfl) ?_ _ _ nx_scr _ ((nx_vc L C T R F W U t (if t > 0 then t else 0) (fun u => u = nextV L C T R F W U (if t > 0 then t else 0))).mpr ?_)).mono (fun v σ ⟨s, q⟩ => q)
    · intro p hp' l hl
      rw [show (XNx L C T R F W U (if t > 0 then t else 0)).P = Try.prog from rfl, nx_loops] at hp'
      simp only [List.mem_cons, List.not_mem_nil, or_false] at hp'
      subst hp'
      have : l = LNx L C T R F W U (if t > 0 then t else 0) := (Option.some.inj hl).symm
      subst this
      exact LNx_ok _ _ _ _ _ _ _ _
    · unfold nx_VC
      exact ⟨rfl, ⟨rfl, ⟨⟨rfl, .inr ⟨rfl, rfl⟩⟩, ⟨rfl, .inr ⟨rfl, rfl⟩⟩, trivial⟩, rfl, ⟨rfl, rfl, rfl, trivial⟩⟩, hp, rfl⟩
  · cases h
def trsRn : List (Nat × Tr1) := (31, pureG nextRF) :: purRn.map fun p => (p.1, pureT p.2)
noncomputable def XRn2 : Cx := ⟨Try.prog, lookT trsRn, purO purRn, purRn.map (·.1), 20, lookL []⟩
theorem trsRn_ok : TrsOk Try.prog (lookT trsRn) :=
  TrsOk.cons next_tr <| TrsOk.cons (tr_of_good' good_spot2 rfl) <| TrsOk.cons at3_tr <| TrsOk.cons (tr_of_good' good_spot2 rfl) <| TrsOk.cons (tr_of_good' good_spot2 rfl) <| TrsOk.cons (tr_of_good' good_spot2 rfl) TrsOk.nil
theorem XRn2_ok : CxOk XRn2 := ⟨trsRn_ok, purO_ok purRn_ok, mixed⟩
end Go.Proofs.Ytnfelncgeihihaa.V
