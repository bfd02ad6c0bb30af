/- bank: a round of BankSlots. -/
import Derived.Test.YtndjipgpnhhggaaRBkC
namespace Go.Proofs.YtndjipgpnhhggaaR.V
open Go Go.Proofs
set_option maxRecDepth 100000
set_option maxHeartbeats 8000000
set_option linter.unusedSimpArgs false
set_option linter.unusedVariables false
theorem slotsR_ok {a b : Int} {i n c : Nat} {ns : List Int} {z : Int} {N : NS} {Q : QS} (ha : 0 ≤ a ∧ a < 256) (hb : 0 ≤ b ∧ b < 256) (hi : i < n) (hn : n ≤ 60) (hln : ns.length = n) (hz : (enc8 ns).getD (0 + Int.toNat (i : Int) * 1) (.tup []) = .int .u8 z)
    (hN : ∀ a' b' σ, ((a' = a ∧ b' = b) ∨ (a' = tdA a z (decide ((i : Int).tmod 2 = 1)) ∧ b' = tdB a b z (decide ((i : Int).tmod 2 = 1)) ∧ bits .and .u8 a 32 = 0)) → σ.get 0 = .ro (enc8 ns) → σ.get 1 = .cells 23 [.int .u8 a', .int .u8 b'] → N 127 [some (.slice 0 0 n (some c)), some (.ptr 1 0), some (.int .i64 (i + 1)), none] σ) : slotsR_VC a b i n c ns N Q () := by
  unfold slotsR_VC
  have hlt : decide ((i : Int) < (n : Int)) = true := by simp; omega
  rw [hlt]
  refine ⟨fun _ => ?_, fun h => by cases h⟩
  obtain ⟨⟨f1, f2⟩, ⟨f3, f4⟩, ⟨f5, f6⟩, ⟨f7, f8⟩, f9, f10⟩ := s_facts ha.1 ha.2 hb.1 hb.2
  have hw : IntKind.i64.wrap ((i : Int) + 1) = i + 1 := wrap_in (by omega) (by omega)
  have hlen : (enc8 ns).length = n := by simp [enc8, hln]
  rw [hz, hw, hlen]
  have g1 : ¬ s0 a b < 0 := by omega
  have g2 : ¬ s0 a b > 11 := by omega
  have g3 : ¬ s1 b < 0 := by omega
  have g4 : ¬ s1 b > 11 := by omega
  have g5 : ¬ s1 b > 7 := by omega
  have g6 : ¬ s2 b < 0 := by omega
  have g7 : ¬ s2 b > 11 := by omega
  have g8 : ¬ s2 b > 7 := by omega
  have g9 : ¬ s3 a b < 0 := by omega
  have g10 : ¬ s3 a b > 11 := by omega
  have g11 : ¬ s3 a b > 7 := by omega
  have g12 : decide ((0 : Int) ≤ (i : Int) ∧ (i : Int) < (n : Int)) = true := by simp; omega
  have g13 : decide (0 + Int.toNat (i : Int) * 1 < n) = true := by simp; omega
  have g14 : AV.isI .u8 (.int .u8 z) = true := rfl
  have g15 : AV.toI (.int .u8 z) = z := rfl
  clear f1 f2 f3 f4 f5 f6 f7 f8 hlt
  simp only [g1, g2, g3, g4, g5, g6, g7, g8, g9, g10, g11, g12, g13, g14, g15, decide_false, decide_true, Bool.not_false, Bool.not_true, forall_const, true_and, and_true, reduceCtorEq, false_implies, implies_true]
  rcases od_par hb.1 hb.2 with ⟨h1, -⟩ | ⟨h1, -⟩
  · obtain ⟨q1, q2, q3, q4⟩ := f9 h1
    have q1' : ¬ s0 a b < 8 := by omega
    by_cases h8 : bits .and .u8 a 8 = 0 <;> by_cases h32 : bits .and .u8 a 32 = 0
    · simp [h1, q1', q2, q3, q4, h8, h32, toldE]
      exact hN _ _ _ (.inr ⟨rfl, rfl, h32⟩) rfl rfl
    · simp [h1, q1', q2, q3, q4, h8, h32, toldE, tdA, tdB]
      exact hN _ _ _ (.inl ⟨rfl, rfl⟩) rfl rfl
    · simp [h1, q1', q2, q3, q4, h8, h32, toldE]
      exact hN _ _ _ (.inr ⟨rfl, rfl, h32⟩) rfl rfl
    · simp [h1, q1', q2, q3, q4, h8, h32, toldE, tdA, tdB]
      exact hN _ _ _ (.inl ⟨rfl, rfl⟩) rfl rfl
  · have q1 := f10 h1
    have q1' : ¬ s0 a b > 7 := by omega
    by_cases h8 : bits .and .u8 a 8 = 0 <;> by_cases h32 : bits .and .u8 a 32 = 0
    · simp [h1, q1', h8, h32, toldE]
      exact hN _ _ _ (.inr ⟨rfl, rfl, h32⟩) rfl rfl
    · simp [h1, q1', h8, h32, toldE, tdA, tdB]
      exact hN _ _ _ (.inl ⟨rfl, rfl⟩) rfl rfl
    · simp [h1, q1', h8, h32, toldE]
      exact hN _ _ _ (.inr ⟨rfl, rfl, h32⟩) rfl rfl
    · simp [h1, q1', h8, h32, toldE, tdA, tdB]
      exact hN _ _ _ (.inl ⟨rfl, rfl⟩) rfl rfl
theorem enc8_get {ns : List Int} {i : Nat} (h : i < ns.length) : (enc8 ns).getD (0 + Int.toNat (i : Int) * 1) (.tup []) = .int .u8 (ns.getD i 0) := by
  simp [enc8, List.getD, h]
theorem pfs_enc8 : ∀ {ns : List Int}, pfs (enc8 ns) = true
  | [] => by simp [enc8]
  | z :: r => by
    have := pfs_enc8 (ns := r)
    unfold enc8 at this ⊢
    simp [this]
theorem bkLoop_wl {a b : Int} {n c : Nat} {ns : List Int} (hp : bkPre a b n ns = true) :
    WL Try.prog 1 (loopAt Try.prog 3 0) (fun e fr σ => e = .exit 0 ∧ fr = (bkE ns).1 ∧ σ = (bkE ns).2) (bkT a b 0 n c ns).1 (bkT a b 0 n c ns).2 := by
  unfold bkPre at hp
  simp only [Bool.and_eq_true, decide_eq_true_eq, List.all_eq_true] at hp
  obtain ⟨⟨⟨⟨ha, hb⟩, hl⟩, hn⟩, hall⟩ := hp
  refine loop_fam (X := XBk2) XBk2_ok (by kernel_rfl) rfl [1, 2, 5, 4] (ι := {x : Int × Int × Nat // b8 x.1 = true ∧ b8 x.2.1 = true ∧ x.2.2 ≤ n}) (fun x => bkT x.1.1 x.1.2.1 x.1.2.2 n c ns) (fun x => n - x.1.2.2) _ (fun _ => slotsR_scr)
    (fun x N Q => slotsR_VC x.1.1 x.1.2.1 x.1.2.2 n c ns N Q ()) (fun x N Q => slotsR_vc x.1.1 x.1.2.1 x.1.2.2 n c ns N Q ()) ?_ ⟨(a, b, 0), ha, hb, Nat.zero_le _⟩
  rintro ⟨⟨a, b, i⟩, ha, hb, hi⟩
  by_cases hlt : i < n
  · have hzb : b8 (ns.getD i 0) = true := hall _ (by simp [List.getD, List.getElem?_eq_getElem (show i < ns.length by omega)])
    refine slotsR_ok (b8_iff.1 ha) (b8_iff.1 hb) hlt hn hl (enc8_get (show i < ns.length by omega)) ?_
    intro a' b' σ h h0 h1
    have hab : b8 a' = true ∧ b8 b' = true := by
      rcases h with ⟨rfl, rfl⟩ | ⟨rfl, rfl, h32⟩
      · exact ⟨ha, hb⟩
      · unfold tdA tdB
        rw [if_pos h32, if_pos h32]
        constructor <;> split <;> assumption
    refine ⟨⟨(a', b', i + 1), hab.1, hab.2, hlt⟩, [(0, 0), (1, 1)], ?_, rfl, ⟨?_, ?_, trivial⟩, rfl, ⟨rfl, rfl, rfl, trivial⟩⟩
    · show n - (i + 1) < n - i; omega
    · rw [h0]; exact .inr ⟨pfs_enc8, rfl⟩
    · rw [h1]; exact ⟨rfl, .inr ⟨rfl, rfl⟩⟩
  · unfold slotsR_VC
    have hf : decide ((i : Int) < (n : Int)) = false := by simp; omega
    rw [hf]
    refine ⟨fun h => (by cases h), fun _ => ?_⟩
    refine ⟨[(0, 0)], (bkE ns).1, (bkE ns).2, ⟨rfl, ⟨.inr ⟨pfs_enc8, rfl⟩, trivial⟩, rfl, trivial⟩, rfl, rfl, rfl⟩
theorem LBk_ok (a b : Int) (n c : Nat) (ns : List Int) : LOk Try.prog (loopAt Try.prog 3 0) (LBk a b n c ns) := by
  rintro n0 fr σ s Q ⟨h0, hf, hp, hq⟩
  cases (h0 : n0 = 1)
  intro E a w hE hs
  refine (WL.less (bkLoop_wl hp) ?_) E a w hE (Fits.refines hf E hE a w hs)
  rintro e fr σ ⟨rfl, rfl, rfl⟩
  exact ⟨_, _, fun E _ a w h => h, s, hq⟩
def firstB : List (Nat × Code) → Bool
  | [] => false
  | p :: r => Nat.beq p.1 0 && r.all fun q => !Nat.beq q.1 0
theorem only_first {l : List (Nat × Code)} (h : firstB l = true) {p : Nat × Code} (hp : p ∈ l) (h0 : p.1 = 0) : p.2 = (l.getD 0 (0, .skip)).2 := by
  cases l with
  | nil => cases hp
  | cons q r =>
    simp only [firstB, Bool.and_eq_true, List.all_eq_true] at h
    rcases List.mem_cons.1 hp with rfl | hp
    · rfl
    · have := h.2 p hp
      rw [h0] at this; cases this
theorem lookL_one {k j : Nat} {L L' : LTr} (h : lookL [(k, L)] j = some L') : j = k ∧ L' = L := by
  simp only [lookL] at h
  split at h
  · rename_i hk
    exact ⟨(Nat.eq_of_beq_eq_true hk).symm, (Option.some.inj h).symm⟩
  · cases h
theorem bk_loops : firstB (loopsOf (bodyOf Try.prog 3) 0) = true := by kernel_rfl
theorem XBs_ok (a b : Int) (n c : Nat) (ns : List Int) : CxOk (XBs a b n c ns) := ⟨purT_ok purBk2_ok, purO_ok purBk2_ok, mixedBk⟩
end Go.Proofs.YtndjipgpnhhggaaR.V
