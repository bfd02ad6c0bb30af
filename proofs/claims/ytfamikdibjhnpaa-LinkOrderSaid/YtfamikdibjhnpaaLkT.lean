/- link: what is sent and taken (part 9): All's and Msgs' loops. -/
import Derived.Test.YtfamikdibjhnpaaLkR
namespace Go.Proofs.Ytfamikdibjhnpaa.V
open Go Go.Proofs
set_option maxRecDepth 100000
set_option maxHeartbeats 4000000
set_option linter.unusedSimpArgs false
set_option linter.unusedVariables false
theorem rowsOf_succ {n : Nat} {fr : Int} {rc : List AV} {i : Nat} : rowsOf n fr rc (i + 1) = rowsOf n fr rc i ++ [rowAt rc ((fr.toNat + i) % n)] := by
  simp [rowsOf, List.range_succ]
theorem allR_succ {n : Nat} {fr : Int} {rc : List AV} {i : Nat} : allR n fr rc (i + 1) = allR n fr rc i ++ (rowAt rc ((fr.toNat + i) % n)).cells := by
  unfold allR
  rw [rowsOf_succ, mF_app]
  simp [mF]
theorem allR_len {n : Nat} {fr : Int} {rc : List AV} {i : Nat} : (allR n fr rc i).length = i * 7 := by
  unfold allR; rw [mF_len]; simp [rowsOf]
section
variable (n : Nat) (fr mk : Int) (en : Bool) (rc : List AV) (c : Nat)
def allSt : Nat → AF × AH
  | 0 => (aF .nilslice (c : Int) ((0 : Nat) : Int), aH0 n fr (c : Int) mk en rc)
  | i + 1 => (aF (.slice 2 0 (i + 1) none) (c : Int) ((i + 1 : Nat) : Int), aH1 n fr (c : Int) mk en rc (allR n fr rc (i + 1)))
def allEx : AF × AH := (⟨33, [(3, .slice 2 0 c none)]⟩, aH1 n fr (c : Int) mk en rc (allR n fr rc c))
end
theorem ObjRen.link {gs : List (Nat × Nat)} (h : lookN gs 0 = some 0) {n : Nat} {fr ct mk : Int} {en : Bool} : ObjRen (lookN gs) (.ro (lkRo n fr ct mk en)) (.ro (lkRo n fr ct mk en)) := by
  refine .inl ?_
  simp [lkRo, renL, AV.ren, h]
theorem all_wl {n : Nat} {fr mk : Int} {en : Bool} {rc : List AV} {c : Nat} (hk : lnOk n n fr (c : Int) rc) (h0 : 0 < c) :
    WL Try.prog 2 AllL (fun e f σ => e = .exit 0 ∧ f = (allEx n fr mk en rc c).1 ∧ σ = (allEx n fr mk en rc c).2) (allSt n fr mk en rc c 0).1 (allSt n fr mk en rc c 0).2 := by
  obtain ⟨_, k1, k2, k3, k4, k5, k6, k7⟩ := hk
  refine loop_fam (X := cxP Try.prog [] []) (sy := syA) (b := 0) XL0_ok (by kernel_rfl) rfl slA (ι := {i : Nat // i ≤ c}) (fun i => allSt n fr mk en rc c i.1) (fun i => c - i.1) _
    (fun i => match i.1 with | 0 => aR0_scr | _ + 1 => aR1_scr)
    (fun i N Q => match i.1 with
      | 0 => aR0_VC 2 n fr (c : Int) mk en rc ((0 : Nat) : Int) N Q ()
      | i + 1 => aR1_VC 2 n fr (c : Int) mk en rc ((i + 1 : Nat) : Int) (i + 1) (allR n fr rc (i + 1)) N Q ())
    (fun i N Q => by
      obtain ⟨i, hi⟩ := i
      cases i with
      | zero => exact aR0_vc 2 n fr (c : Int) mk en rc ((0 : Nat) : Int) N Q ()
      | succ i => exact aR1_vc 2 n fr (c : Int) mk en rc ((i + 1 : Nat) : Int) (i + 1) (allR n fr rc (i + 1)) N Q ()) ?_ ⟨0, Nat.zero_le _⟩
  rintro ⟨i, hi⟩
  have hn : (!decide ((n : Int) = 0)) = true := by simp; omega
  have hw : IntKind.i64.wrap (fr + (i : Int)) = fr + (i : Int) := wrap_in (by omega) (by omega)
  have t0 : 0 ≤ Int.tmod (fr + (i : Int)) (n : Int) := Int.tmod_nonneg _ (by omega)
  have t1 : Int.tmod (fr + (i : Int)) (n : Int) < (n : Int) := Int.tmod_lt_of_pos _ (by omega)
  have hb : decide (0 ≤ Int.tmod (fr + (i : Int)) (n : Int) ∧ Int.tmod (fr + (i : Int)) (n : Int) < (n : Int)) = true := decide_eq_true ⟨t0, t1⟩
  have ht : (Int.tmod (fr + (i : Int)) (n : Int)).toNat = (fr.toNat + i) % n := by
    rw [tmod_nat (by omega)]
    congr 1
    omega
  have hm : (fr.toNat + i) % n < n := Nat.mod_lt _ (by omega)
  have hl : decide (0 + (fr.toNat + i) % n * 7 + 7 ≤ rc.length) = true := by rw [k7.1]; exact decide_eq_true (by omega)
  obtain ⟨r0, r1, r2, r3, r4, r5, r6⟩ := k7.2.2 _ hm
  have w1 : IntKind.i64.wrap ((i : Int) + 1) = ((i + 1 : Nat) : Int) := by rw [wrap_in (by omega) (by omega)]; omega
  cases i with
  | zero =>
    have hlt : decide (((0 : Nat) : Int) < (c : Int)) = true := decide_eq_true (by omega)
    show aR0_VC 2 n fr (c : Int) mk en rc ((0 : Nat) : Int) _ _ ()
    simp only [aR0_VC, hw, hn, hb, ht, hl, hlt, w1, Bool.false_eq_true, Bool.true_eq_false, false_implies, true_implies, true_and, and_true]
    have z : ∀ a : Nat, 0 + a = a := Nat.zero_add
    simp only [Nat.add_assoc, z, Nat.reduceAdd] at r0 r1 r2 r3 r4 r5 r6 ⊢
    refine ⟨r0, r1, r2, r3, r4, r5, r6, ⟨1, h0⟩, [(0, 0), (1, 1), (3, 2)], (show c - 1 < c - 0 by omega), rfl, ⟨?_, ?_, ?_, trivial⟩, rfl, ⟨rfl, rfl, rfl, rfl, trivial⟩⟩
    · exact .inr ⟨k7.2.1, rfl⟩
    · exact ObjRen.link rfl
    · refine ⟨rfl, rfl, .inr ⟨rfl, ?_⟩⟩
      rw [allR_succ]
      simp [allR, rowsOf, mF, rowAt, Mg.cells]
  | succ i =>
    by_cases hic : i + 1 < c
    · have hlt : decide (((i + 1 : Nat) : Int) < (c : Int)) = true := decide_eq_true (by omega)
      have g1 : decide (0 < i + 1) = true := decide_eq_true (by omega)
      have g2 : decide ((i + 1) * 7 = (allR n fr rc (i + 1)).length) = true := by rw [allR_len]; exact decide_eq_true rfl
      have g3 : decide ((i + 1 + 1) * 56 ≤ 140737488355328) = true := decide_eq_true (by omega)
      have g4 : decide (i + 1 + 1 ≤ 140737488355328) = true := decide_eq_true (by omega)
      show aR1_VC 2 n fr (c : Int) mk en rc ((i + 1 : Nat) : Int) (i + 1) (allR n fr rc (i + 1)) _ _ ()
      simp only [aR1_VC, hw, hn, hb, ht, hl, hlt, w1, g1, g2, g3, g4, Bool.false_eq_true, Bool.true_eq_false, false_implies, true_implies, true_and, and_true]
      have z : ∀ a : Nat, 0 + a = a := Nat.zero_add
      generalize hq : (fr.toNat + (i + 1)) % n = q at *
      have a2 : ∀ a : Nat, a + 1 + 1 = a + 2 := fun a => rfl
      have a3 : ∀ a : Nat, a + 2 + 1 = a + 3 := fun a => rfl
      have a4 : ∀ a : Nat, a + 3 + 1 = a + 4 := fun a => rfl
      have a5 : ∀ a : Nat, a + 4 + 1 = a + 5 := fun a => rfl
      have a6 : ∀ a : Nat, a + 5 + 1 = a + 6 := fun a => rfl
      rw [z]
      refine ⟨r0, r1, r2, r3, r4, r5, r6, ⟨i + 2, hic⟩, [(0, 0), (1, 1), (4, 2)], (show c - (i + 2) < c - (i + 1) by omega), rfl, ⟨?_, ?_, ?_, trivial⟩, rfl, ⟨rfl, rfl, rfl, rfl, trivial⟩⟩
      · exact .inr ⟨k7.2.1, rfl⟩
      · exact ObjRen.link rfl
      · refine ⟨rfl, rfl, .inr ⟨?_, ?_⟩⟩
        · exact pfs_app pfs_mF rfl
        · rw [allR_succ, hq]; rfl
    · have e : c = i + 1 := by omega
      have hlt : decide (((i + 1 : Nat) : Int) < (c : Int)) = false := decide_eq_false (by omega)
      show aR1_VC 2 n fr (c : Int) mk en rc ((i + 1 : Nat) : Int) (i + 1) (allR n fr rc (i + 1)) _ _ ()
      unfold aR1_VC
      rw [hlt]
      refine ⟨fun h => (by cases h), fun _ => ?_⟩
      subst e
      refine ⟨[(0, 0), (1, 1), (2, 2)], (allEx n fr mk en rc (i + 1)).1, (allEx n fr mk en rc (i + 1)).2, ⟨rfl, ⟨?_, ?_, ?_, trivial⟩, rfl, ⟨rfl, trivial⟩⟩, rfl, rfl, rfl⟩
      · exact .inr ⟨k7.2.1, rfl⟩
      · exact ObjRen.link rfl
      · exact ⟨rfl, rfl, .inr ⟨pfs_mF, rfl⟩⟩
def LAll (n : Nat) (fr mk : Int) (en : Bool) (rc : List AV) (c : Nat) : LTr := fun n0 f σ s K => need (n0 = 2) ∧ need (Fits 2 [(0, 0), (1, 1)] f σ (allSt n fr mk en rc c 0).1 (allSt n fr mk en rc c 0).2) ∧ need (lnOk n n fr (c : Int) rc ∧ 0 < c) ∧ K (.exit 0) (allEx n fr mk en rc c).1 (allEx n fr mk en rc c).2 s
theorem LAll_ok (n : Nat) (fr mk : Int) (en : Bool) (rc : List AV) (c : Nat) : LOk Try.prog AllL (LAll n fr mk en rc c) := by
  rintro n0 f σ s Q ⟨h0, hf, ⟨h1, h2⟩, hq⟩
  cases (h0 : n0 = 2)
  intro E a w hE hs
  refine (WL.less (all_wl h1 h2) ?_) E a w hE (Fits.refines hf E hE a w hs)
  rintro e f σ ⟨rfl, rfl, rfl⟩
  exact ⟨_, _, fun E _ a w h => h, s, hq⟩
-- ------------------------------------------------------------------ Msgs
def mgT (la lb : List AV) (m off : Nat) (i : Nat) : AF × AH := (mFr m m off (i : Int), mHp la lb)
def mgX : AF × AH := (⟨26, []⟩, ⟨2, []⟩)
theorem mF_off {l' : List Mg} {k i j : Nat} (h : k + i < l'.length) (hj : j < 7) : (mF l').getD (k * 7 + i * 7 + j) (.tup []) = ((l'.getD (k + i) default).cells).getD j (.tup []) := by
  rw [show k * 7 + i * 7 + j = (k + i) * 7 + j by omega]
  exact mF_get h hj
theorem mg_wl {la lb : List AV} {m off : Nat} (h : msOk la lb m m off) : WL Try.prog 2 MsgsL (fun e f σ => e = .exit 0 ∧ f = mgX.1 ∧ σ = mgX.2) (mgT la lb m off 0).1 (mgT la lb m off 0).2 := by
  obtain ⟨l, l', k, rfl, rfl, rfl, _, hm, rfl, hd⟩ := h
  refine loop_fam (X := cxP Try.prog [] []) (sy := syM) (b := 0) XL0_ok (by kernel_rfl) rfl slM (ι := {i : Nat // i ≤ l.length}) (fun i => mgT (mF l) (mF l') l.length (k * 7) i.1) (fun i => l.length - i.1) _
    (fun i => mR_scr) (fun i N Q => mR_VC 2 l.length l.length (k * 7) (mF l) (mF l') (i.1 : Int) N Q ())
    (fun i N Q => mR_vc 2 l.length l.length (k * 7) (mF l) (mF l') (i.1 : Int) N Q ()) ?_ ⟨0, Nat.zero_le _⟩
  rintro ⟨i, hi⟩
  show mR_VC 2 l.length l.length (k * 7) (mF l) (mF l') (i : Int) _ _ ()
  by_cases hlt : i < l.length
  · have hlen := congrArg List.length hd
    simp only [List.length_take, List.length_drop] at hlen
    have hki : k + i < l'.length := by omega
    have hg : l'.getD (k + i) default = l.getD i default := by
      rw [← hd]
      simp only [List.getD_eq_getElem?_getD]
      rw [List.getElem?_take_of_lt (by omega), List.getElem?_drop]
    have f1 : decide ((i : Int) < (l.length : Int)) = true := decide_eq_true (by omega)
    have f2 : decide (0 ≤ (i : Int) ∧ (i : Int) < (l.length : Int)) = true := decide_eq_true (by omega)
    have f3 : decide (0 + Int.toNat (i : Int) * 7 + 7 ≤ (mF l).length) = true := by rw [mF_len]; exact decide_eq_true (by rw [Int.toNat_natCast]; omega)
    have f4 : decide (k * 7 + Int.toNat (i : Int) * 7 + 7 ≤ (mF l').length) = true := by rw [mF_len]; exact decide_eq_true (by rw [Int.toNat_natCast]; omega)
    have w1 : IntKind.i64.wrap ((i : Int) + 1) = ((i + 1 : Nat) : Int) := by rw [wrap_in (by omega) (by omega)]; omega
    have q0 : (mF l').getD (k * 7 + Int.toNat (i : Int) * 7) (.tup []) = .int .i64 (l.getD i default).k := by rw [Int.toNat_natCast, ← hg]; exact mF_off (j := 0) hki (by omega)
    have q1 : (mF l').getD (k * 7 + Int.toNat (i : Int) * 7 + 1) (.tup []) = .int .i64 (l.getD i default).t := by rw [Int.toNat_natCast, ← hg]; exact mF_off (j := 1) hki (by omega)
    have q2 : (mF l').getD (k * 7 + Int.toNat (i : Int) * 7 + 1 + 1) (.tup []) = .int .i64 (l.getD i default).c := by rw [Int.toNat_natCast, ← hg]; exact mF_off (j := 2) hki (by omega)
    have q3 : (mF l').getD (k * 7 + Int.toNat (i : Int) * 7 + 1 + 1 + 1) (.tup []) = .int .u8 (l.getD i default).h := by rw [Int.toNat_natCast, ← hg]; exact mF_off (j := 3) hki (by omega)
    have q4 : (mF l').getD (k * 7 + Int.toNat (i : Int) * 7 + 1 + 1 + 1 + 1) (.tup []) = .int .i64 (l.getD i default).b := by rw [Int.toNat_natCast, ← hg]; exact mF_off (j := 4) hki (by omega)
    have q5 : (mF l').getD (k * 7 + Int.toNat (i : Int) * 7 + 1 + 1 + 1 + 1 + 1) (.tup []) = .int .i64 (l.getD i default).p := by rw [Int.toNat_natCast, ← hg]; exact mF_off (j := 5) hki (by omega)
    have q6 : (mF l').getD (k * 7 + Int.toNat (i : Int) * 7 + 1 + 1 + 1 + 1 + 1 + 1) (.tup []) = .int .u8 (l.getD i default).v := by rw [Int.toNat_natCast, ← hg]; exact mF_off (j := 6) hki (by omega)
    simp only [mR_VC, f1, f2, f3, f4, w1, m0 hlt, m1 hlt, m2 hlt, m3 hlt, m4 hlt, m5 hlt, m6 hlt, q0, q1, q2, q3, q4, q5, q6, AV.toI, isI_me, beq_self_eq_true, Bool.and_self, Bool.not_true, Bool.false_eq_true, Bool.true_eq_false, false_implies, true_implies, true_and, and_true]
    exact ⟨⟨i + 1, hlt⟩, [(0, 0), (1, 1)], (show l.length - (i + 1) < l.length - i by omega), rfl, ⟨.inr ⟨pfs_mF, rfl⟩, .inr ⟨pfs_mF, rfl⟩, trivial⟩, rfl, ⟨rfl, rfl, rfl, trivial⟩⟩
  · have f1 : decide ((i : Int) < (l.length : Int)) = false := decide_eq_false (by omega)
    unfold mR_VC
    rw [f1]
    refine ⟨fun h => (by cases h), fun _ => ?_⟩
    exact ⟨[(0, 0), (1, 1)], mgX.1, mgX.2, ⟨rfl, ⟨trivial, trivial, trivial⟩, rfl, trivial⟩, rfl, rfl, rfl⟩
def LMsgs (la lb : List AV) (m off : Nat) : LTr := fun n0 f σ s K => need (n0 = 2) ∧ need (Fits 2 [(0, 0), (1, 1)] f σ (mgT la lb m off 0).1 (mgT la lb m off 0).2) ∧ need (msOk la lb m m off) ∧ K (.exit 0) mgX.1 mgX.2 s
theorem LMsgs_ok (la lb : List AV) (m off : Nat) : LOk Try.prog MsgsL (LMsgs la lb m off) := by
  rintro n0 f σ s Q ⟨h0, hf, h1, hq⟩
  cases (h0 : n0 = 2)
  intro E a w hE hs
  refine (WL.less (mg_wl h1) ?_) E a w hE (Fits.refines hf E hE a w hs)
  rintro e f σ ⟨rfl, rfl, rfl⟩
  exact ⟨_, _, fun E _ a w h => h, s, hq⟩
-- ------------------------------------------------------------------ the functions' settings
def okLn : List Nat := [7, 17]
theorem okLn_ok : okFunsX Try.prog okLn = true := by kernel_rfl
noncomputable def XAl (l : List (Nat × LTr)) : Cx := ⟨Try.prog, inl Try.prog (purO []) [] 20 (purT []) okLn 3, purO [], [], 20, lookL l⟩
theorem XAl_ok (l : List (Nat × LTr)) : CxOk (XAl l) := ⟨inl_ok (purO_ok PurOk.nil) mixedlives (purT_ok PurOk.nil) okLn_ok 3, purO_ok PurOk.nil, mixedlives⟩
end Go.Proofs.Ytfamikdibjhnpaa.V
