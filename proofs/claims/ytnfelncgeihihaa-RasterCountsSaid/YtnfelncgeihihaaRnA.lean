/- raster: what is done at a time, told by its numbers; the search for the next thing (part 1). -/
import Derived.Test.YtnfelncgeihihaaCo2
import Derived.Test.YtnfelncgeihihaaV24
namespace Go.Proofs.Ytnfelncgeihihaa.V
open Go Go.Proofs
set_option maxRecDepth 100000
set_option linter.unusedSimpArgs false
set_option linter.unusedVariables false
theorem tr_of_good' {P : Program} {orc : Orc} (g : Good P orc) {f : Nat} {F : List AV → Option AV} (h : orc f = some (pureO F)) : TrOk P f (pureT F) := by
  intro xs σ s K hk
  unfold pureT at hk
  split at hk
  · rename_i v hv
    refine (g.ok f _ h xs σ v σ (by simp [pureO, hv, retV])).mono ?_
    rintro u τ ⟨rfl, rfl⟩
    exact ⟨s, hk⟩
  · exact hk.elim
theorem pureT_congr' {P : Program} {f : Nat} {F G : List AV → Option AV} (h : TrOk P f (pureT F)) (e : ∀ xs v, G xs = some v → F xs = some v) : TrOk P f (pureT G) := by
  intro xs σ s K hk
  unfold pureT at hk
  split at hk
  · rename_i v hv
    exact h xs σ s K (by unfold pureT; rw [e xs v hv]; exact hk)
  · exact hk.elim
def at4 : AV → Int × Int × Int × Int
  | .tup [.agg [.int _ d, .int _ x, .int _ y], .int _ e] => (d, x, y, e)
  | _ => (0, 0, 0, 0)
def atD (L C T R F W U t : Int) : Int := (at4 (atA L C T R F W U t)).1
def atX (L C T R F W U t : Int) : Int := (at4 (atA L C T R F W U t)).2.1
def atY (L C T R F W U t : Int) : Int := (at4 (atA L C T R F W U t)).2.2.1
def atE (L C T R F W U t : Int) : Int := (at4 (atA L C T R F W U t)).2.2.2
theorem atA_eq (L C T R F W U t : Int) : atA L C T R F W U t = .tup [.agg [.int .i64 (atD L C T R F W U t), .int .i64 (atX L C T R F W U t), .int .i64 (atY L C T R F W U t)], .int .i64 (atE L C T R F W U t)] := by
  unfold atD atX atY atE
  unfold atA
  by_cases h : lenF L C T R F W U = 0 ∨ mayB t = false
  · rw [if_pos h]; rfl
  · rw [if_neg h]
    obtain ⟨a, b, c, e⟩ := beamA_tup L C T R F W U ((t.tmod (lenF L C T R F W U)).tdiv C) (t.tmod C)
    rw [e]
    rfl
def at3F : List AV → Option AV
  | [.agg [.int .i64 L, .int .i64 C, .int .i64 T, .int .i64 R, .int .i64 F, .int .i64 W, .int .i64 U], .int .i64 t] => some (.tup [.agg [.int .i64 (atD L C T R F W U t), .int .i64 (atX L C T R F W U t), .int .i64 (atY L C T R F W U t)], .int .i64 (atE L C T R F W U t)])
  | _ => none
theorem at3_tr : TrOk Try.prog 30 (pureT at3F) := by
  refine pureT_congr' (tr_of_good' good_spot2 rfl) (F := atF) ?_
  intro xs v h
  unfold at3F at h
  split at h
  · cases h
    rename_i L C T R F W U t
    rw [← atA_eq L C T R F W U t]; rfl
  · cases h
def purRn : Pur := [(26, livesBF), (30, at3F), (25, pickF), (27, check2F), (28, length2F)]
theorem purRn_ok : PurOk Try.prog purRn :=
  PurOk.cons (tr_of_good' good_spot2 rfl) <| PurOk.cons at3_tr <| PurOk.cons (tr_of_good' good_spot2 rfl) <| PurOk.cons (tr_of_good' good_spot2 rfl) <| PurOk.cons (tr_of_good' good_spot2 rfl) PurOk.nil
noncomputable def XRn : Cx := cxP Try.prog purRn []
theorem XRn_ok : CxOk (cxP Try.prog purRn []) := cxP_ok mixed purRn_ok rfl
/-- The first time from one on at which it is so, of so many. -/
def nxt (p : Int → Bool) : Nat → Int → Int
  | 0, t => t
  | k + 1, t => if p t = true then t else nxt p k (t + 1)
theorem nxt_spec {p : Int → Bool} : ∀ {k : Nat} {t : Int}, (∃ d : Nat, d < k ∧ p (t + d) = true) → t ≤ nxt p k t ∧ nxt p k t < t + k ∧ p (nxt p k t) = true ∧ ∀ m, t ≤ m → m < nxt p k t → p m = false
  | 0, t, ⟨d, hd, _⟩ => by omega
  | k + 1, t, ⟨d, hd, hp⟩ => by
    unfold nxt
    by_cases h : p t = true
    · rw [if_pos h]; exact ⟨Int.le_refl _, by omega, h, fun m h1 h2 => by omega⟩
    · rw [if_neg h]
      have hd0 : d ≠ 0 := by
        intro e
        subst e
        simp at hp
        exact h hp
      obtain ⟨a, b, c, e⟩ := nxt_spec (p := p) (k := k) (t := t + 1) ⟨d - 1, by omega, by rw [show t + 1 + ((d - 1 : Nat) : Int) = t + d by omega]; exact hp⟩
      refine ⟨by omega, by omega, c, fun m h1 h2 => ?_⟩
      by_cases hm : m = t
      · subst hm; simpa using h
      · exact e m (by omega) h2
def evB (L C T R F W U t : Int) : Bool := !decide (atD L C T R F W U t = 0)
def nxtN (L C T R F W U t : Int) : Int := nxt (evB L C T R F W U) 400 t
theorem at_zero {L C T R F W U t : Int} (hk : okF L C T R F W U = true) (h0 : 0 ≤ t) (h1 : t ≤ 1099511627776) : atE L C T R F W U t = 0 ∧ (t % C = 0 → evB L C T R F W U t = true) := by
  have hi := okF_iff.1 hk
  have hz := okF_sz hk
  have hn : ¬ (lenF L C T R F W U = 0 ∨ mayB t = false) := by
    rw [show lenF L C T R F W U = L * C by simp [lenF, hk], show mayB t = true by simp [mayB, h0, h1]]
    simp; omega
  unfold atE evB atD
  unfold atA
  rw [if_neg hn]
  obtain ⟨a, b, c, e⟩ := beamA_tup L C T R F W U ((t.tmod (lenF L C T R F W U)).tdiv C) (t.tmod C)
  constructor
  · rw [e]; rfl
  · intro hc
    have h0' : t.tmod C = 0 := by rw [Int.tmod_eq_emod_of_nonneg h0]; exact hc
    rw [h0']
    generalize (t.tmod (lenF L C T R F W U)).tdiv C = y
    unfold beamA
    have w1 : IntKind.i64.wrap (0 - F) = 0 - F := wrap_in (by omega) (by omega)
    rw [w1, if_neg (by omega), if_pos (by decide +kernel)]
    rfl
theorem ev_near {L C T R F W U t : Int} (hk : okF L C T R F W U = true) (h0 : 0 ≤ t) (h1 : t ≤ 1099511000000) : ∃ d : Nat, (d : Int) < C ∧ d < 400 ∧ evB L C T R F W U (t + d) = true := by
  have hi := okF_iff.1 hk
  have c0 : 0 ≤ t % C := Int.emod_nonneg _ (by omega)
  have c1 : t % C < C := Int.emod_lt_of_pos _ (by omega)
  by_cases hc : t % C = 0
  · exact ⟨0, by omega, by omega, by simpa using (at_zero hk h0 (by omega)).2 hc⟩
  · refine ⟨(C - t % C).toNat, by omega, by omega, ?_⟩
    have e : ((C - t % C).toNat : Int) = C - t % C := by omega
    rw [e]
    refine (at_zero hk (by omega) (by omega)).2 ?_
    rw [show t + (C - t % C) = (t - t % C) + C by omega, Int.add_emod_right]
    exact Int.emod_eq_zero_of_dvd (Int.dvd_self_sub_emod)
theorem nxtN_spec {L C T R F W U t : Int} (hk : okF L C T R F W U = true) (h0 : 0 ≤ t) (h1 : t ≤ 1099511000000) :
    t ≤ nxtN L C T R F W U t ∧ nxtN L C T R F W U t < t + 400 ∧ nxtN L C T R F W U t < t + C ∧ evB L C T R F W U (nxtN L C T R F W U t) = true ∧ ∀ m, t ≤ m → m < nxtN L C T R F W U t → evB L C T R F W U m = false := by
  obtain ⟨d, hd1, hd2, hd3⟩ := ev_near hk h0 h1
  obtain ⟨a, b, c, e⟩ := nxt_spec (p := evB L C T R F W U) (k := 400) (t := t) ⟨d, hd2, hd3⟩
  refine ⟨a, b, ?_, c, e⟩
  unfold nxtN
  rcases Int.lt_or_le (t + d) (nxt (evB L C T R F W U) 400 t) with h | h
  · have := e (t + d) (by omega) h
    rw [hd3] at this; cases this
  · omega
def scrC (L C T R F W U : Int) : List AV := [.int .i64 L, .int .i64 C, .int .i64 T, .int .i64 R, .int .i64 F, .int .i64 W, .int .i64 U]
/-- The search's states, its end. -/
def nxT (L C T R F W U t : Int) : AF × AH := (⟨30, [(1, .int .i64 t), (2, .ptr 0 0), (5, .ptr 1 0)]⟩, ⟨2, [(1, .cells 41 [.int .i64 0, .int .i64 0, .int .i64 0]), (0, .cells 23 [.int .i64 L, .int .i64 C, .int .i64 T, .int .i64 R, .int .i64 F, .int .i64 W, .int .i64 U])]⟩)
def nxE (L C T R F W U n : Int) : AF × AH := (⟨30, [(4, .int .i64 n), (5, .ptr 1 0), (6, .bool true)]⟩, ⟨2, [(1, .cells 41 [.int .i64 (atD L C T R F W U n), .int .i64 (atX L C T R F W U n), .int .i64 (atY L C T R F W U n)]), (0, .cells 23 [.int .i64 L, .int .i64 C, .int .i64 T, .int .i64 R, .int .i64 F, .int .i64 W, .int .i64 U])]⟩)
def nxPre (L C T R F W U t : Int) : Bool := okF L C T R F W U && decide (0 ≤ t) && decide (t ≤ 1099511000000)
def LNx (L C T R F W U t : Int) : LTr := fun n0 fr σ s K => need (n0 = 0) ∧ need (Fits 0 [(0, 0), (1, 1)] fr σ (nxT L C T R F W U t).1 (nxT L C T R F W U t).2) ∧ need (nxPre L C T R F W U t = true) ∧ K .ret (nxE L C T R F W U (nxtN L C T R F W U t)).1 (nxE L C T R F W U (nxtN L C T R F W U t)).2 s
noncomputable def XNx (L C T R F W U t : Int) : Cx := ⟨Try.prog, purT purRn, purO purRn, purRn.map (·.1), 20, lookL [(0, LNx L C T R F W U t)]⟩
end Go.Proofs.Ytnfelncgeihihaa.V
