/- tstate: times, spots, bytes (part 10): what is read of a screen's bytes is the screen; the law's way. -/
import Derived.Test.YtnfelncgeihihaaTbH
namespace Go.Proofs.Ytnfelncgeihihaa.V
open Go Go.Proofs
set_option maxRecDepth 100000
set_option maxHeartbeats 4000000
set_option linter.unusedSimpArgs false
set_option linter.unusedVariables false
theorem bothF {b : Bool} {p q : Prop} (h : b = false) (k : q) : (b = true → p) ∧ (b = false → q) := ⟨fun e => (by rw [h] at e; cases e), fun _ => k⟩
theorem bothT {b : Bool} {p q : Prop} (h : b = true) (k : p) : (b = true → p) ∧ (b = false → q) := ⟨fun _ => k, fun e => (by rw [h] at e; cases e)⟩
theorem rd_loops : loopsOf (bodyOf Try.prog 47) 0 = [(0, loopAt Try.prog 47 0)] := by kernel_rfl
theorem read_sc {L C T R F W U : Int} (hk : okF L C T R F W U = true) : SC Try.prog 47 [.slice 0 0 (bts (scX L C T R F W U) 7).length none] ⟨1, [(0, .ro (encI .u8 (bts (scX L C T R F W U) 7)))]⟩
    (fun v τ => v = .tup [.agg [.int .i64 L, .int .i64 C, .int .i64 T, .int .i64 R, .int .i64 F, .int .i64 W, .int .i64 U], .int .i64 0] ∧ τ.get 2 = .opn 5 1 (encI .u8 (bts (scX L C T R F W U) 7))) := by
  have hl := bts_len (scX L C T R F W U) 7
  have hp : 0 < (bts (scX L C T R F W U) 7).length := by
    obtain ⟨r, hr⟩ := bts_split (scX L C T R F W U) (show 0 < 7 by omega)
    have := numB_len (scX L C T R F W U 0)
    rw [hr]; simp; omega
  refine sc_of_vcT (XRe_ok (scX L C T R F W U) (bts (scX L C T R F W U) 7).length (oA (scX L C T R F W U) 7) (encI .u8 (bts (scX L C T R F W U) 7))) (by kernel_rfl) ?_ (red_vc _ _ _ _ _) ?_
  · intro p hp' l hl
    rw [show (XRe (scX L C T R F W U) (bts (scX L C T R F W U) 7).length (oA (scX L C T R F W U) 7) (encI .u8 (bts (scX L C T R F W U) 7))).P = Try.prog from rfl, rd_loops] at hp'
    simp only [List.mem_cons, List.not_mem_nil, or_false] at hp'
    subst hp'
    cases hl
    exact LRd_ok _ _ _ _
  · unfold red_VC
    refine ⟨⟨hp, enc_len.symm, by omega, by omega, pfs_enc⟩, rfl, ⟨rfl, ⟨.inr ⟨pfs_enc, rfl⟩, ⟨rfl, .inr ⟨rfl, rfl⟩⟩, ⟨rfl, rfl, .inr ⟨pfs_enc, rfl⟩⟩, ⟨rfl, .inl rfl⟩, ⟨rfl, .inr ⟨rfl, rfl⟩⟩, ⟨rfl, .inl rfl⟩, trivial⟩, rfl, ⟨rfl, rfl, rfl, rfl, rfl, rfl, trivial⟩⟩, ⟨rfl, rfl, rfl, scX_bd hk⟩, ?_⟩
    refine bothF ?_ ⟨rfl, rfl⟩
    show (!decide ((if okF L C T R F W U = true then (0 : Int) else 2) = 0)) = false
    rw [if_pos hk]; rfl
def readTr (L C T R F W U : Int) (n : Nat) (cs : List AV) : Tr1 := fun xs σ s K => match xs with
  | [.slice b 0 m none] => match σ.get b with
    | .opn _ _ ds => need (m = n ∧ ds = cs ∧ b < σ.nx ∧ okF L C T R F W U = true ∧ n = (bts (scX L C T R F W U) 7).length ∧ cs = encI .u8 (bts (scX L C T R F W U) 7)) ∧
        K (.tup [.agg [.int .i64 L, .int .i64 C, .int .i64 T, .int .i64 R, .int .i64 F, .int .i64 W, .int .i64 U], .int .i64 0]) (σ.push (.opn 5 1 cs)) s
    | _ => False
  | _ => False
theorem readTr_ok (L C T R F W U : Int) (n : Nat) (cs : List AV) : TrOk Try.prog 47 (readTr L C T R F W U n cs) := by
  intro xs σ s K h
  unfold readTr at h
  split at h
  · rename_i b m
    split at h
    · rename_i e z ds hb
      obtain ⟨⟨rfl, rfl, hbx, hk, h1, h2⟩, hq⟩ := h
      subst h1 h2
      refine (SC.frameG (args0 := [.slice 0 0 (bts (scX L C T R F W U) 7).length none]) (σ0 := ⟨1, [(0, .ro (encI .u8 (bts (scX L C T R F W U) 7)))]⟩) (σ := σ) (k := 2) (u := .tup [.agg [.int .i64 L, .int .i64 C, .int .i64 T, .int .i64 R, .int .i64 F, .int .i64 W, .int .i64 U], .int .i64 0])
        (fun i => if i = 0 then some b else none) (fun x => if x = b then some 0 else none) ?_ ?_ ?_ (by simp [renL, AV.ren]) pfs_enc rfl (read_sc hk)).mono ?_
      · intro i hi
        have : i = 0 := by have : i < 1 := hi; omega
        subst this
        exact ⟨b, _, rfl, hbx, by rw [hb]; rfl, rfl, pfs_enc⟩
      · intro i
        by_cases e : i = 0
        · subst e; rfl
        · simp [AH.get, lookH, Ne.symm e, AObj.wr]
      · intro y c hy
        split at hy
        · rename_i e; subst e; cases hy; exact ⟨Nat.zero_lt_one, by simp⟩
        · cases hy
      · rintro v τ ⟨rfl, rfl⟩
        exact ⟨s, hq⟩
    · exact h.elim
  · exact h.elim
noncomputable def XTbk (L C T R F W U : Int) (n : Nat) (cs : List AV) : Cx := ⟨Try.prog, withT 46 (bytesTr L C T R F W U n cs) (withT 47 (readTr L C T R F W U n cs) (purT purTb2)), purO purTb2, purTb2.map (·.1), 20, lookL []⟩
theorem XTbk_ok (L C T R F W U : Int) (n : Nat) (cs : List AV) : CxOk (XTbk L C T R F W U n cs) := ⟨withT_ok (bytesTr_ok L C T R F W U n cs) (withT_ok (readTr_ok L C T R F W U n cs) (purT_ok purTb2_ok)), purO_ok purTb2_ok, mixed⟩
end Go.Proofs.Ytnfelncgeihihaa.V
