/- contend: rows of requests (part 13): the law's own loops. Printed by gen_rwp.py. contend: rows of requests (part 14): the law's ways. Printed by gen_rwq.py. -/
import Derived.Test.YtnfelncgeihihaaRwO
namespace Go.Proofs.Ytnfelncgeihihaa.V
open Go Go.Proofs
set_option maxRecDepth 100000
set_option maxHeartbeats 2000000
set_option linter.unusedSimpArgs false
set_option linter.unusedVariables false
theorem toI_int (k : IntKind) (n : Int) : AV.toI (.int k n) = n := rfl
theorem toB_bool (b : Bool) : AV.toB (.bool b) = b := rfl
theorem acc_get {L C T R F W U t : Int} {rq : List Rq} {sl : Nat → Bool} {i : Nat} (h : i < rq.length) : (encI .i64 (rowAcc L C T R F W U rq sl t rq.length)).getD (0 + Int.toNat (i : Int) * 1) (.tup []) = .int .i64 (rowA L C T R F W U rq sl t i) := by
  simp [encI, rowAcc, List.getD, h]
theorem cm_facts {L C T R F W U k a v n now : Int} (sl : Bool) (h : reqErr L C T R F W U k a v n now = 0) (hq : stepE k a v n = 0) (h0 : 0 ≤ now) (h1 : now ≤ 1099511626776) :
    decide (reqAt L C T R F W U k a v n sl now < now) = false ∧ decide (reqEnd L C T R F W U k a v n sl now ≤ reqAt L C T R F W U k a v n sl now) = false ∧ decide (reqEnd L C T R F W U k a v n sl now < IntKind.i64.wrap (now + n)) = false ∧
    decide (IntKind.i64.wrap (now + IntKind.i64.wrap (n + mostN L C T R F W U k)) < reqEnd L C T R F W U k a v n sl now) = false := by
  obtain ⟨c1, c2, c3, c4⟩ := req_bd sl h
  have hm := mostN_bd L C T R F W U k
  have hz := stepE_zero hq
  refine ⟨decide_eq_false (by omega), decide_eq_false (by omega), ?_, ?_⟩
  · rw [wrap_in (by omega) (by omega)]; exact decide_eq_false (by omega)
  · rw [wrap_in (n := n + mostN L C T R F W U k) (by omega) (by omega), wrap_in (by omega) (by omega)]; exact decide_eq_false (by omega)
theorem first_bad : ∀ {rq : List Rq}, ¬ rqsOk rq → ∃ m, m < rq.length ∧ ¬ stepE (rq.getD m default).k (rq.getD m default).a (rq.getD m default).v (rq.getD m default).n = 0 ∧ ∀ i, i < m → stepE (rq.getD i default).k (rq.getD i default).a (rq.getD i default).v (rq.getD i default).n = 0
  | [], h => absurd (fun q hq => by cases hq) h
  | q :: r, h => by
    by_cases hq : stepE q.k q.a q.v q.n = 0
    · obtain ⟨m, h1, h2, h3⟩ := first_bad (rq := r) (fun hr => h (fun x hx => by
        rcases List.mem_cons.1 hx with rfl | hx
        · exact hq
        · exact hr x hx))
      refine ⟨m + 1, by simpa using h1, by simpa [List.getD] using h2, fun i hi => ?_⟩
      cases i with
      | zero => simpa [List.getD] using hq
      | succ i => simpa [List.getD] using h3 i (by omega)
    · exact ⟨0, by simp, by simpa [List.getD] using hq, fun i hi => by omega⟩
theorem chN_ok {L C T R F W U t u : Int} {rq : List Rq} {bs : List AV} {i : Nat} {c : Nat} {N : NS} {Q : QS} (hi : i < rq.length) (hn : rq.length ≤ 60)
    (hN : stepE (rq.getD i default).k (rq.getD i default).a (rq.getD i default).v (rq.getD i default).n = 0 → N 208 [some (.slice 0 0 rq.length (some c)), some .nilslice, some (.int .i64 t), some (.int .i64 u), some (.ptr 2 0), none, some (.int .i64 ((i + 1 : Nat) : Int))] ⟨3, rwH L C T R F W U (qF rq) bs⟩)
    (hQ : ¬ stepE (rq.getD i default).k (rq.getD i default).a (rq.getD i default).v (rq.getD i default).n = 0 → Q .ret 208 [some (.slice 0 0 rq.length (some c)), some .nilslice, some (.int .i64 t), some (.int .i64 u), some (.ptr 2 0), some (.bool true), some (.int .i64 (i : Int))] ⟨3, rwH L C T R F W U (qF rq) bs⟩) :
    chN_VC L C T R F W U t u (i : Int) rq.length c (qF rq) bs N Q () := by
  unfold chN_VC
  have hlt : decide ((i : Int) < (rq.length : Int)) = true := by simp; omega
  have hge : decide ((0 : Int) ≤ (i : Int) ∧ (i : Int) < (rq.length : Int)) = true := by simp; omega
  have hle : decide (0 + Int.toNat (i : Int) * 4 + 4 ≤ (qF rq).length) = true := by rw [qF_len]; simp; omega
  have hw : IntKind.i64.wrap ((i : Int) + 1) = ((i + 1 : Nat) : Int) := by rw [wrap_in (by omega) (by omega)]; omega
  rw [hlt, hge, hle, hw, qF0 hi, qF1 hi, qF2 hi, qF3 hi]
  refine ⟨fun _ => ⟨rfl, rfl, rfl, rfl, rfl, rfl, ?_, ?_⟩, fun h => by cases h⟩
  · intro h
    exact hQ (by simpa [AV.toI] using h)
  · intro h
    exact hN (by simpa [AV.toI] using h)
theorem chN_wl {L C T R F W U t u : Int} {rq : List Rq} {bs : List AV} {c : Nat} (hb : pfs bs = true) (hn : rq.length ≤ 60) (hq : rqsOk rq) :
    WL Try.prog 2 (loopAt Try.prog 14 0) (fun e fr σ => e = .exit 0 ∧ fr = (chT .nilslice L C T R F W U t u rq.length rq.length c (qF rq) bs).1 ∧ σ = (chT .nilslice L C T R F W U t u rq.length rq.length c (qF rq) bs).2) (chT .nilslice L C T R F W U t u 0 rq.length c (qF rq) bs).1 (chT .nilslice L C T R F W U t u 0 rq.length c (qF rq) bs).2 := by
  refine loop_fam (X := XCo4) XCo4_ok (by kernel_rfl) rfl [1, 2, 3, 4, 5, 10, 11] (ι := {i : Nat // i ≤ rq.length}) (fun i => chT .nilslice L C T R F W U t u (i.1 : Int) rq.length c (qF rq) bs) (fun i => rq.length - i.1) _ (fun _ => chN_scr)
    (fun i N Q => chN_VC L C T R F W U t u (i.1 : Int) rq.length c (qF rq) bs N Q ()) (fun i N Q => chN_vc L C T R F W U t u (i.1 : Int) rq.length c (qF rq) bs N Q ()) ?_ ⟨0, Nat.zero_le _⟩
  rintro ⟨i, hi⟩
  by_cases hlt : i < rq.length
  · refine chN_ok hlt hn (fun _ => ?_) (fun h => absurd (rqs_get hq hlt) h)
    refine ⟨⟨i + 1, hlt⟩, [(0, 0), (1, 1), (2, 2)], (show rq.length - (i + 1) < rq.length - i by omega), rfl, ⟨.inr ⟨pfs_qF, rfl⟩, .inr ⟨hb, rfl⟩, ⟨rfl, .inr ⟨rfl, rfl⟩⟩, trivial⟩, rfl, ⟨rfl, rfl, rfl, rfl, rfl, rfl, trivial⟩⟩
  · have e : i = rq.length := by omega
    subst e
    unfold chN_VC
    have hf : decide ((rq.length : Int) < (rq.length : Int)) = false := decide_eq_false (by omega)
    rw [hf]
    refine ⟨fun h => (by cases h), fun _ => ?_⟩
    exact ⟨[(0, 0), (1, 1), (2, 2)], (chT .nilslice L C T R F W U t u rq.length rq.length c (qF rq) bs).1, (chT .nilslice L C T R F W U t u rq.length rq.length c (qF rq) bs).2, ⟨rfl, ⟨.inr ⟨pfs_qF, rfl⟩, .inr ⟨hb, rfl⟩, ⟨rfl, .inr ⟨rfl, rfl⟩⟩, trivial⟩, rfl, ⟨rfl, rfl, rfl, rfl, rfl, rfl, trivial⟩⟩, rfl, rfl, rfl⟩
/-- The first request that may not be ends the law. -/
theorem chN_bad {L C T R F W U t u : Int} {rq : List Rq} {bs : List AV} {c : Nat} (hb : pfs bs = true) (hn : rq.length ≤ 60) (hq : ¬ rqsOk rq) :
    WL Try.prog 2 (loopAt Try.prog 14 0) (fun e fr σ => e = .ret ∧ fr = (⟨208, [(10, .bool true)]⟩ : AF) ∧ σ = (chT .nilslice L C T R F W U t u 0 rq.length c (qF rq) bs).2) (chT .nilslice L C T R F W U t u 0 rq.length c (qF rq) bs).1 (chT .nilslice L C T R F W U t u 0 rq.length c (qF rq) bs).2 := by
  obtain ⟨m, hm, hbad, hok⟩ := first_bad hq
  refine loop_fam (X := XCo4) XCo4_ok (by kernel_rfl) rfl [1, 2, 3, 4, 5, 10, 11] (ι := {i : Nat // i ≤ m}) (fun i => chT .nilslice L C T R F W U t u (i.1 : Int) rq.length c (qF rq) bs) (fun i => rq.length - i.1) _ (fun _ => chN_scr)
    (fun i N Q => chN_VC L C T R F W U t u (i.1 : Int) rq.length c (qF rq) bs N Q ()) (fun i N Q => chN_vc L C T R F W U t u (i.1 : Int) rq.length c (qF rq) bs N Q ()) ?_ ⟨0, Nat.zero_le _⟩
  rintro ⟨i, hi⟩
  refine chN_ok (show i < rq.length by omega) hn (fun h => ?_) (fun h => ?_)
  · have hlt : i < m := by
      rcases Nat.lt_or_eq_of_le hi with h1 | h1
      · exact h1
      · subst h1; exact absurd h hbad
    refine ⟨⟨i + 1, hlt⟩, [(0, 0), (1, 1), (2, 2)], (show rq.length - (i + 1) < rq.length - i by omega), rfl, ⟨.inr ⟨pfs_qF, rfl⟩, .inr ⟨hb, rfl⟩, ⟨rfl, .inr ⟨rfl, rfl⟩⟩, trivial⟩, rfl, ⟨rfl, rfl, rfl, rfl, rfl, rfl, trivial⟩⟩
  · exact ⟨[(0, 0), (1, 1), (2, 2)], (⟨208, [(10, .bool true)]⟩ : AF), (chT .nilslice L C T R F W U t u 0 rq.length c (qF rq) bs).2, ⟨rfl, ⟨.inr ⟨pfs_qF, rfl⟩, .inr ⟨hb, rfl⟩, ⟨rfl, .inr ⟨rfl, rfl⟩⟩, trivial⟩, rfl, ⟨rfl, trivial⟩⟩, rfl, rfl, rfl⟩
theorem cmN_ok {L C T R F W U t e : Int} {rq : List Rq} {bs : List AV} {i : Nat} {c : Nat} {N : NS} {Q : QS} (hi : i < rq.length) (hn : rq.length ≤ 60)
    (ho : rowOk L C T R F W U rq (fun _ => false) t i) (hq : stepE (rq.getD i default).k (rq.getD i default).a (rq.getD i default).v (rq.getD i default).n = 0) (hb0 : 0 ≤ (rowE L C T R F W U rq (fun _ => false) t i)) (hb1 : (rowE L C T R F W U rq (fun _ => false) t i) ≤ 1099511626776)
    (hN : N 208 [some (.slice 0 0 rq.length (some c)), some .nilslice, some (.ptr 2 0), some (.slice 3 0 rq.length none), some (.int .i64 e), some (.int .i64 (rowE L C T R F W U rq (fun _ => false) t (i + 1))), some (.int .i64 ((i + 1 : Nat) : Int))] ⟨4, (3, .opn 2 1 (encI .i64 (rowAcc L C T R F W U rq (fun _ => false) t rq.length))) :: rwH L C T R F W U (qF rq) bs⟩) :
    cmN_VC L C T R F W U e (rowE L C T R F W U rq (fun _ => false) t i) (i : Int) rq.length c (qF rq) bs (rowAcc L C T R F W U rq (fun _ => false) t rq.length) N Q () := by
  unfold cmN_VC
  have hlt : decide ((i : Int) < (rq.length : Int)) = true := by simp; omega
  have hge : decide ((0 : Int) ≤ (i : Int) ∧ (i : Int) < (rq.length : Int)) = true := by simp; omega
  have hle : decide (0 + Int.toNat (i : Int) * 4 + 4 ≤ (qF rq).length) = true := by rw [qF_len]; simp; omega
  have hw : IntKind.i64.wrap ((i : Int) + 1) = ((i + 1 : Nat) : Int) := by rw [wrap_in (by omega) (by omega)]; omega
  have hla : (encI .i64 (rowAcc L C T R F W U rq (fun _ => false) t rq.length)).length = rq.length := by simp [encI, rowAcc]
  have m4 : decide (0 + Int.toNat (i : Int) * 4 + 3 < (qF rq).length) = true := by rw [qF_len]; simp; omega
  have hlb : decide (0 + Int.toNat (i : Int) * 1 < rq.length) = true := by simp; omega
  unfold rowOk at ho
  rw [hlt, hge, hle, hw, hla, hlb, qF0 hi, qF1 hi, qF2 hi, qF3 hi, acc_get hi]
  have m1 : decide ((i : Int) < 0) = false := by simp
  obtain ⟨f1, f2, f3, f4⟩ := cm_facts false ho hq hb0 hb1
  repeat rw [toI_int]
  try rw [toB_bool]
  simp only [m4, m1, f1, f2, f3, f4, ho, AV.isI, AV.isB, AV.toI, AV.toB, rowA, decide_true, decide_false, Bool.not_true, Bool.not_false, forall_const, true_and, and_true, reduceCtorEq, false_implies, implies_true, Bool.false_eq_true, ge_iff_le, gt_iff_lt]
  exact hN
theorem cmN_wl {L C T R F W U t e : Int} {rq : List Rq} {bs : List AV} {c : Nat} (hb : pfs bs = true) (hn : rq.length ≤ 60) (hq : rqsOk rq) (hk : okF L C T R F W U = true) (h0 : 0 ≤ t) (h1 : t + 31 * rq.length ≤ 1099511626776) :
    WL Try.prog 2 (loopAt Try.prog 14 1) (fun x fr σ => x = .exit 2 ∧ fr = (cmT .nilslice L C T R F W U e (rowE L C T R F W U rq (fun _ => false) t rq.length) rq.length rq.length c (qF rq) bs (rowAcc L C T R F W U rq (fun _ => false) t rq.length)).1 ∧ σ = (cmT .nilslice L C T R F W U e (rowE L C T R F W U rq (fun _ => false) t rq.length) rq.length rq.length c (qF rq) bs (rowAcc L C T R F W U rq (fun _ => false) t rq.length)).2) (cmT .nilslice L C T R F W U e t 0 rq.length c (qF rq) bs (rowAcc L C T R F W U rq (fun _ => false) t rq.length)).1 (cmT .nilslice L C T R F W U e t 0 rq.length c (qF rq) bs (rowAcc L C T R F W U rq (fun _ => false) t rq.length)).2 := by
  refine loop_fam (X := XCo4) XCo4_ok (by kernel_rfl) rfl [1, 2, 5, 12, 13, 22, 23] (ι := {i : Nat // i ≤ rq.length}) (fun i => cmT .nilslice L C T R F W U e (rowE L C T R F W U rq (fun _ => false) t i.1) (i.1 : Int) rq.length c (qF rq) bs (rowAcc L C T R F W U rq (fun _ => false) t rq.length)) (fun i => rq.length - i.1) _ (fun _ => cmN_scr)
    (fun i N Q => cmN_VC L C T R F W U e (rowE L C T R F W U rq (fun _ => false) t i.1) (i.1 : Int) rq.length c (qF rq) bs (rowAcc L C T R F W U rq (fun _ => false) t rq.length) N Q ()) (fun i N Q => cmN_vc L C T R F W U e (rowE L C T R F W U rq (fun _ => false) t i.1) (i.1 : Int) rq.length c (qF rq) bs (rowAcc L C T R F W U rq (fun _ => false) t rq.length) N Q ()) ?_ ⟨0, Nat.zero_le _⟩
  rintro ⟨i, hi⟩
  obtain ⟨q0, q1⟩ := rowE_bd (sl := fun _ => false) hk hq h0 h1 hi
  have q2 : 0 ≤ (rowE L C T R F W U rq (fun _ => false) t i) ∧ (rowE L C T R F W U rq (fun _ => false) t i) ≤ 1099511626776 := by omega
  by_cases hlt : i < rq.length
  · refine cmN_ok hlt hn (rowOk_of hk hq h0 h1 hlt) (rqs_get hq hlt) q2.1 q2.2 ?_
    refine ⟨⟨i + 1, hlt⟩, [(0, 0), (1, 1), (2, 2), (3, 3)], (show rq.length - (i + 1) < rq.length - i by omega), rfl, ⟨.inr ⟨pfs_qF, rfl⟩, .inr ⟨hb, rfl⟩, ⟨rfl, .inr ⟨rfl, rfl⟩⟩, ⟨rfl, rfl, .inr ⟨pfs_encI, rfl⟩⟩, trivial⟩, rfl, ⟨rfl, rfl, rfl, rfl, rfl, rfl, rfl, trivial⟩⟩
  · have e : i = rq.length := by omega
    subst e
    unfold cmN_VC
    have hf : decide ((rq.length : Int) < (rq.length : Int)) = false := decide_eq_false (by omega)
    rw [hf]
    refine ⟨fun h => (by cases h), fun _ => ?_⟩
    exact ⟨[(0, 0), (1, 1), (2, 2), (3, 3)], (cmT .nilslice L C T R F W U _ (rowE L C T R F W U rq (fun _ => false) t rq.length) rq.length rq.length c (qF rq) bs (rowAcc L C T R F W U rq (fun _ => false) t rq.length)).1, (cmT .nilslice L C T R F W U 0 (rowE L C T R F W U rq (fun _ => false) t rq.length) rq.length rq.length c (qF rq) bs (rowAcc L C T R F W U rq (fun _ => false) t rq.length)).2, ⟨rfl, ⟨.inr ⟨pfs_qF, rfl⟩, .inr ⟨hb, rfl⟩, ⟨rfl, .inr ⟨rfl, rfl⟩⟩, ⟨rfl, rfl, .inr ⟨pfs_encI, rfl⟩⟩, trivial⟩, rfl, ⟨rfl, rfl, rfl, rfl, rfl, rfl, rfl, trivial⟩⟩, rfl, rfl, rfl⟩
theorem chE_ok {L C T R F W U t u : Int} {rq : List Rq} {bs : List AV} {i : Nat} {c : Nat} {N : NS} {Q : QS} (hi : i < rq.length) (hn : rq.length ≤ 60)
    (hN : stepE (rq.getD i default).k (rq.getD i default).a (rq.getD i default).v (rq.getD i default).n = 0 → N 208 [some (.slice 0 0 rq.length (some c)), some (.slice 1 0 0 none), some (.int .i64 t), some (.int .i64 u), some (.ptr 2 0), none, some (.int .i64 ((i + 1 : Nat) : Int))] ⟨3, rwH L C T R F W U (qF rq) bs⟩)
    (hQ : ¬ stepE (rq.getD i default).k (rq.getD i default).a (rq.getD i default).v (rq.getD i default).n = 0 → Q .ret 208 [some (.slice 0 0 rq.length (some c)), some (.slice 1 0 0 none), some (.int .i64 t), some (.int .i64 u), some (.ptr 2 0), some (.bool true), some (.int .i64 (i : Int))] ⟨3, rwH L C T R F W U (qF rq) bs⟩) :
    chE_VC L C T R F W U t u (i : Int) rq.length c (qF rq) bs N Q () := by
  unfold chE_VC
  have hlt : decide ((i : Int) < (rq.length : Int)) = true := by simp; omega
  have hge : decide ((0 : Int) ≤ (i : Int) ∧ (i : Int) < (rq.length : Int)) = true := by simp; omega
  have hle : decide (0 + Int.toNat (i : Int) * 4 + 4 ≤ (qF rq).length) = true := by rw [qF_len]; simp; omega
  have hw : IntKind.i64.wrap ((i : Int) + 1) = ((i + 1 : Nat) : Int) := by rw [wrap_in (by omega) (by omega)]; omega
  rw [hlt, hge, hle, hw, qF0 hi, qF1 hi, qF2 hi, qF3 hi]
  refine ⟨fun _ => ⟨rfl, rfl, rfl, rfl, rfl, rfl, ?_, ?_⟩, fun h => by cases h⟩
  · intro h
    exact hQ (by simpa [AV.toI] using h)
  · intro h
    exact hN (by simpa [AV.toI] using h)
theorem chE_wl {L C T R F W U t u : Int} {rq : List Rq} {bs : List AV} {c : Nat} (hb : pfs bs = true) (hn : rq.length ≤ 60) (hq : rqsOk rq) :
    WL Try.prog 2 (loopAt Try.prog 14 0) (fun e fr σ => e = .exit 0 ∧ fr = (chT (.slice 1 0 0 none) L C T R F W U t u rq.length rq.length c (qF rq) bs).1 ∧ σ = (chT (.slice 1 0 0 none) L C T R F W U t u rq.length rq.length c (qF rq) bs).2) (chT (.slice 1 0 0 none) L C T R F W U t u 0 rq.length c (qF rq) bs).1 (chT (.slice 1 0 0 none) L C T R F W U t u 0 rq.length c (qF rq) bs).2 := by
  refine loop_fam (X := XCo4) XCo4_ok (by kernel_rfl) rfl [1, 2, 3, 4, 5, 10, 11] (ι := {i : Nat // i ≤ rq.length}) (fun i => chT (.slice 1 0 0 none) L C T R F W U t u (i.1 : Int) rq.length c (qF rq) bs) (fun i => rq.length - i.1) _ (fun _ => chE_scr)
    (fun i N Q => chE_VC L C T R F W U t u (i.1 : Int) rq.length c (qF rq) bs N Q ()) (fun i N Q => chE_vc L C T R F W U t u (i.1 : Int) rq.length c (qF rq) bs N Q ()) ?_ ⟨0, Nat.zero_le _⟩
  rintro ⟨i, hi⟩
  by_cases hlt : i < rq.length
  · refine chE_ok hlt hn (fun _ => ?_) (fun h => absurd (rqs_get hq hlt) h)
    refine ⟨⟨i + 1, hlt⟩, [(0, 0), (1, 1), (2, 2)], (show rq.length - (i + 1) < rq.length - i by omega), rfl, ⟨.inr ⟨pfs_qF, rfl⟩, .inr ⟨hb, rfl⟩, ⟨rfl, .inr ⟨rfl, rfl⟩⟩, trivial⟩, rfl, ⟨rfl, rfl, rfl, rfl, rfl, rfl, trivial⟩⟩
  · have e : i = rq.length := by omega
    subst e
    unfold chE_VC
    have hf : decide ((rq.length : Int) < (rq.length : Int)) = false := decide_eq_false (by omega)
    rw [hf]
    refine ⟨fun h => (by cases h), fun _ => ?_⟩
    exact ⟨[(0, 0), (1, 1), (2, 2)], (chT (.slice 1 0 0 none) L C T R F W U t u rq.length rq.length c (qF rq) bs).1, (chT (.slice 1 0 0 none) L C T R F W U t u rq.length rq.length c (qF rq) bs).2, ⟨rfl, ⟨.inr ⟨pfs_qF, rfl⟩, .inr ⟨hb, rfl⟩, ⟨rfl, .inr ⟨rfl, rfl⟩⟩, trivial⟩, rfl, ⟨rfl, rfl, rfl, rfl, rfl, rfl, trivial⟩⟩, rfl, rfl, rfl⟩
/-- The first request that may not be ends the law. -/
theorem chE_bad {L C T R F W U t u : Int} {rq : List Rq} {bs : List AV} {c : Nat} (hb : pfs bs = true) (hn : rq.length ≤ 60) (hq : ¬ rqsOk rq) :
    WL Try.prog 2 (loopAt Try.prog 14 0) (fun e fr σ => e = .ret ∧ fr = (⟨208, [(10, .bool true)]⟩ : AF) ∧ σ = (chT (.slice 1 0 0 none) L C T R F W U t u 0 rq.length c (qF rq) bs).2) (chT (.slice 1 0 0 none) L C T R F W U t u 0 rq.length c (qF rq) bs).1 (chT (.slice 1 0 0 none) L C T R F W U t u 0 rq.length c (qF rq) bs).2 := by
  obtain ⟨m, hm, hbad, hok⟩ := first_bad hq
  refine loop_fam (X := XCo4) XCo4_ok (by kernel_rfl) rfl [1, 2, 3, 4, 5, 10, 11] (ι := {i : Nat // i ≤ m}) (fun i => chT (.slice 1 0 0 none) L C T R F W U t u (i.1 : Int) rq.length c (qF rq) bs) (fun i => rq.length - i.1) _ (fun _ => chE_scr)
    (fun i N Q => chE_VC L C T R F W U t u (i.1 : Int) rq.length c (qF rq) bs N Q ()) (fun i N Q => chE_vc L C T R F W U t u (i.1 : Int) rq.length c (qF rq) bs N Q ()) ?_ ⟨0, Nat.zero_le _⟩
  rintro ⟨i, hi⟩
  refine chE_ok (show i < rq.length by omega) hn (fun h => ?_) (fun h => ?_)
  · have hlt : i < m := by
      rcases Nat.lt_or_eq_of_le hi with h1 | h1
      · exact h1
      · subst h1; exact absurd h hbad
    refine ⟨⟨i + 1, hlt⟩, [(0, 0), (1, 1), (2, 2)], (show rq.length - (i + 1) < rq.length - i by omega), rfl, ⟨.inr ⟨pfs_qF, rfl⟩, .inr ⟨hb, rfl⟩, ⟨rfl, .inr ⟨rfl, rfl⟩⟩, trivial⟩, rfl, ⟨rfl, rfl, rfl, rfl, rfl, rfl, trivial⟩⟩
  · exact ⟨[(0, 0), (1, 1), (2, 2)], (⟨208, [(10, .bool true)]⟩ : AF), (chT (.slice 1 0 0 none) L C T R F W U t u 0 rq.length c (qF rq) bs).2, ⟨rfl, ⟨.inr ⟨pfs_qF, rfl⟩, .inr ⟨hb, rfl⟩, ⟨rfl, .inr ⟨rfl, rfl⟩⟩, trivial⟩, rfl, ⟨rfl, trivial⟩⟩, rfl, rfl, rfl⟩
theorem cmE_ok {L C T R F W U t e : Int} {rq : List Rq} {bs : List AV} {i : Nat} {c : Nat} {N : NS} {Q : QS} (hi : i < rq.length) (hn : rq.length ≤ 60)
    (ho : rowOk L C T R F W U rq (fun _ => false) t i) (hq : stepE (rq.getD i default).k (rq.getD i default).a (rq.getD i default).v (rq.getD i default).n = 0) (hb0 : 0 ≤ (rowE L C T R F W U rq (fun _ => false) t i)) (hb1 : (rowE L C T R F W U rq (fun _ => false) t i) ≤ 1099511626776)
    (hN : N 208 [some (.slice 0 0 rq.length (some c)), some (.slice 1 0 0 none), some (.ptr 2 0), some (.slice 3 0 rq.length none), some (.int .i64 e), some (.int .i64 (rowE L C T R F W U rq (fun _ => false) t (i + 1))), some (.int .i64 ((i + 1 : Nat) : Int))] ⟨4, (3, .opn 2 1 (encI .i64 (rowAcc L C T R F W U rq (fun _ => false) t rq.length))) :: rwH L C T R F W U (qF rq) bs⟩) :
    cmE_VC L C T R F W U e (rowE L C T R F W U rq (fun _ => false) t i) (i : Int) rq.length c (qF rq) bs (rowAcc L C T R F W U rq (fun _ => false) t rq.length) N Q () := by
  unfold cmE_VC
  have hlt : decide ((i : Int) < (rq.length : Int)) = true := by simp; omega
  have hge : decide ((0 : Int) ≤ (i : Int) ∧ (i : Int) < (rq.length : Int)) = true := by simp; omega
  have hle : decide (0 + Int.toNat (i : Int) * 4 + 4 ≤ (qF rq).length) = true := by rw [qF_len]; simp; omega
  have hw : IntKind.i64.wrap ((i : Int) + 1) = ((i + 1 : Nat) : Int) := by rw [wrap_in (by omega) (by omega)]; omega
  have hla : (encI .i64 (rowAcc L C T R F W U rq (fun _ => false) t rq.length)).length = rq.length := by simp [encI, rowAcc]
  have m4 : decide (0 + Int.toNat (i : Int) * 4 + 3 < (qF rq).length) = true := by rw [qF_len]; simp; omega
  have hlb : decide (0 + Int.toNat (i : Int) * 1 < rq.length) = true := by simp; omega
  unfold rowOk at ho
  rw [hlt, hge, hle, hw, hla, hlb, qF0 hi, qF1 hi, qF2 hi, qF3 hi, acc_get hi]
  have m1 : decide ((i : Int) < 0) = false := by simp
  obtain ⟨f1, f2, f3, f4⟩ := cm_facts false ho hq hb0 hb1
  repeat rw [toI_int]
  try rw [toB_bool]
  simp only [m4, m1, f1, f2, f3, f4, ho, AV.isI, AV.isB, AV.toI, AV.toB, rowA, decide_true, decide_false, Bool.not_true, Bool.not_false, forall_const, true_and, and_true, reduceCtorEq, false_implies, implies_true, Bool.false_eq_true, ge_iff_le, gt_iff_lt]
  exact hN
theorem cmE_wl {L C T R F W U t e : Int} {rq : List Rq} {bs : List AV} {c : Nat} (hb : pfs bs = true) (hn : rq.length ≤ 60) (hq : rqsOk rq) (hk : okF L C T R F W U = true) (h0 : 0 ≤ t) (h1 : t + 31 * rq.length ≤ 1099511626776) :
    WL Try.prog 2 (loopAt Try.prog 14 1) (fun x fr σ => x = .exit 2 ∧ fr = (cmT (.slice 1 0 0 none) L C T R F W U e (rowE L C T R F W U rq (fun _ => false) t rq.length) rq.length rq.length c (qF rq) bs (rowAcc L C T R F W U rq (fun _ => false) t rq.length)).1 ∧ σ = (cmT (.slice 1 0 0 none) L C T R F W U e (rowE L C T R F W U rq (fun _ => false) t rq.length) rq.length rq.length c (qF rq) bs (rowAcc L C T R F W U rq (fun _ => false) t rq.length)).2) (cmT (.slice 1 0 0 none) L C T R F W U e t 0 rq.length c (qF rq) bs (rowAcc L C T R F W U rq (fun _ => false) t rq.length)).1 (cmT (.slice 1 0 0 none) L C T R F W U e t 0 rq.length c (qF rq) bs (rowAcc L C T R F W U rq (fun _ => false) t rq.length)).2 := by
  refine loop_fam (X := XCo4) XCo4_ok (by kernel_rfl) rfl [1, 2, 5, 12, 13, 22, 23] (ι := {i : Nat // i ≤ rq.length}) (fun i => cmT (.slice 1 0 0 none) L C T R F W U e (rowE L C T R F W U rq (fun _ => false) t i.1) (i.1 : Int) rq.length c (qF rq) bs (rowAcc L C T R F W U rq (fun _ => false) t rq.length)) (fun i => rq.length - i.1) _ (fun _ => cmE_scr)
    (fun i N Q => cmE_VC L C T R F W U e (rowE L C T R F W U rq (fun _ => false) t i.1) (i.1 : Int) rq.length c (qF rq) bs (rowAcc L C T R F W U rq (fun _ => false) t rq.length) N Q ()) (fun i N Q => cmE_vc L C T R F W U e (rowE L C T R F W U rq (fun _ => false) t i.1) (i.1 : Int) rq.length c (qF rq) bs (rowAcc L C T R F W U rq (fun _ => false) t rq.length) N Q ()) ?_ ⟨0, Nat.zero_le _⟩
  rintro ⟨i, hi⟩
  obtain ⟨q0, q1⟩ := rowE_bd (sl := fun _ => false) hk hq h0 h1 hi
  have q2 : 0 ≤ (rowE L C T R F W U rq (fun _ => false) t i) ∧ (rowE L C T R F W U rq (fun _ => false) t i) ≤ 1099511626776 := by omega
  by_cases hlt : i < rq.length
  · refine cmE_ok hlt hn (rowOk_of hk hq h0 h1 hlt) (rqs_get hq hlt) q2.1 q2.2 ?_
    refine ⟨⟨i + 1, hlt⟩, [(0, 0), (1, 1), (2, 2), (3, 3)], (show rq.length - (i + 1) < rq.length - i by omega), rfl, ⟨.inr ⟨pfs_qF, rfl⟩, .inr ⟨hb, rfl⟩, ⟨rfl, .inr ⟨rfl, rfl⟩⟩, ⟨rfl, rfl, .inr ⟨pfs_encI, rfl⟩⟩, trivial⟩, rfl, ⟨rfl, rfl, rfl, rfl, rfl, rfl, rfl, trivial⟩⟩
  · have e : i = rq.length := by omega
    subst e
    unfold cmE_VC
    have hf : decide ((rq.length : Int) < (rq.length : Int)) = false := decide_eq_false (by omega)
    rw [hf]
    refine ⟨fun h => (by cases h), fun _ => ?_⟩
    exact ⟨[(0, 0), (1, 1), (2, 2), (3, 3)], (cmT (.slice 1 0 0 none) L C T R F W U _ (rowE L C T R F W U rq (fun _ => false) t rq.length) rq.length rq.length c (qF rq) bs (rowAcc L C T R F W U rq (fun _ => false) t rq.length)).1, (cmT (.slice 1 0 0 none) L C T R F W U 0 (rowE L C T R F W U rq (fun _ => false) t rq.length) rq.length rq.length c (qF rq) bs (rowAcc L C T R F W U rq (fun _ => false) t rq.length)).2, ⟨rfl, ⟨.inr ⟨pfs_qF, rfl⟩, .inr ⟨hb, rfl⟩, ⟨rfl, .inr ⟨rfl, rfl⟩⟩, ⟨rfl, rfl, .inr ⟨pfs_encI, rfl⟩⟩, trivial⟩, rfl, ⟨rfl, rfl, rfl, rfl, rfl, rfl, rfl, trivial⟩⟩, rfl, rfl, rfl⟩
theorem chS_ok {L C T R F W U t u : Int} {rq : List Rq} {bl : List Bool} {i : Nat} {c cm : Nat} {N : NS} {Q : QS} (hi : i < rq.length) (hn : rq.length ≤ 60)
    (hN : stepE (rq.getD i default).k (rq.getD i default).a (rq.getD i default).v (rq.getD i default).n = 0 → N 208 [some (.slice 0 0 rq.length (some c)), some (.slice 1 0 bl.length (some cm)), some (.int .i64 t), some (.int .i64 u), some (.ptr 2 0), none, some (.int .i64 ((i + 1 : Nat) : Int))] ⟨3, rwH L C T R F W U (qF rq) (bF bl)⟩)
    (hQ : ¬ stepE (rq.getD i default).k (rq.getD i default).a (rq.getD i default).v (rq.getD i default).n = 0 → Q .ret 208 [some (.slice 0 0 rq.length (some c)), some (.slice 1 0 bl.length (some cm)), some (.int .i64 t), some (.int .i64 u), some (.ptr 2 0), some (.bool true), some (.int .i64 (i : Int))] ⟨3, rwH L C T R F W U (qF rq) (bF bl)⟩) :
    chS_VC L C T R F W U t u (i : Int) rq.length c bl.length cm (qF rq) (bF bl) N Q () := by
  unfold chS_VC
  have hlt : decide ((i : Int) < (rq.length : Int)) = true := by simp; omega
  have hge : decide ((0 : Int) ≤ (i : Int) ∧ (i : Int) < (rq.length : Int)) = true := by simp; omega
  have hle : decide (0 + Int.toNat (i : Int) * 4 + 4 ≤ (qF rq).length) = true := by rw [qF_len]; simp; omega
  have hw : IntKind.i64.wrap ((i : Int) + 1) = ((i + 1 : Nat) : Int) := by rw [wrap_in (by omega) (by omega)]; omega
  rw [hlt, hge, hle, hw, qF0 hi, qF1 hi, qF2 hi, qF3 hi]
  refine ⟨fun _ => ⟨rfl, rfl, rfl, rfl, rfl, rfl, ?_, ?_⟩, fun h => by cases h⟩
  · intro h
    exact hQ (by simpa [AV.toI] using h)
  · intro h
    exact hN (by simpa [AV.toI] using h)
theorem chS_wl {L C T R F W U t u : Int} {rq : List Rq} {bl : List Bool} {c cm : Nat} (hb : pfs (bF bl) = true) (hn : rq.length ≤ 60) (hq : rqsOk rq) :
    WL Try.prog 2 (loopAt Try.prog 14 0) (fun e fr σ => e = .exit 0 ∧ fr = (chT (.slice 1 0 bl.length (some cm)) L C T R F W U t u rq.length rq.length c (qF rq) (bF bl)).1 ∧ σ = (chT (.slice 1 0 bl.length (some cm)) L C T R F W U t u rq.length rq.length c (qF rq) (bF bl)).2) (chT (.slice 1 0 bl.length (some cm)) L C T R F W U t u 0 rq.length c (qF rq) (bF bl)).1 (chT (.slice 1 0 bl.length (some cm)) L C T R F W U t u 0 rq.length c (qF rq) (bF bl)).2 := by
  refine loop_fam (X := XCo4) XCo4_ok (by kernel_rfl) rfl [1, 2, 3, 4, 5, 10, 11] (ι := {i : Nat // i ≤ rq.length}) (fun i => chT (.slice 1 0 bl.length (some cm)) L C T R F W U t u (i.1 : Int) rq.length c (qF rq) (bF bl)) (fun i => rq.length - i.1) _ (fun _ => chS_scr)
    (fun i N Q => chS_VC L C T R F W U t u (i.1 : Int) rq.length c bl.length cm (qF rq) (bF bl) N Q ()) (fun i N Q => chS_vc L C T R F W U t u (i.1 : Int) rq.length c bl.length cm (qF rq) (bF bl) N Q ()) ?_ ⟨0, Nat.zero_le _⟩
  rintro ⟨i, hi⟩
  by_cases hlt : i < rq.length
  · refine chS_ok hlt hn (fun _ => ?_) (fun h => absurd (rqs_get hq hlt) h)
    refine ⟨⟨i + 1, hlt⟩, [(0, 0), (1, 1), (2, 2)], (show rq.length - (i + 1) < rq.length - i by omega), rfl, ⟨.inr ⟨pfs_qF, rfl⟩, .inr ⟨hb, rfl⟩, ⟨rfl, .inr ⟨rfl, rfl⟩⟩, trivial⟩, rfl, ⟨rfl, rfl, rfl, rfl, rfl, rfl, trivial⟩⟩
  · have e : i = rq.length := by omega
    subst e
    unfold chS_VC
    have hf : decide ((rq.length : Int) < (rq.length : Int)) = false := decide_eq_false (by omega)
    rw [hf]
    refine ⟨fun h => (by cases h), fun _ => ?_⟩
    exact ⟨[(0, 0), (1, 1), (2, 2)], (chT (.slice 1 0 bl.length (some cm)) L C T R F W U t u rq.length rq.length c (qF rq) (bF bl)).1, (chT (.slice 1 0 bl.length (some cm)) L C T R F W U t u rq.length rq.length c (qF rq) (bF bl)).2, ⟨rfl, ⟨.inr ⟨pfs_qF, rfl⟩, .inr ⟨hb, rfl⟩, ⟨rfl, .inr ⟨rfl, rfl⟩⟩, trivial⟩, rfl, ⟨rfl, rfl, rfl, rfl, rfl, rfl, trivial⟩⟩, rfl, rfl, rfl⟩
/-- The first request that may not be ends the law. -/
theorem chS_bad {L C T R F W U t u : Int} {rq : List Rq} {bl : List Bool} {c cm : Nat} (hb : pfs (bF bl) = true) (hn : rq.length ≤ 60) (hq : ¬ rqsOk rq) :
    WL Try.prog 2 (loopAt Try.prog 14 0) (fun e fr σ => e = .ret ∧ fr = (⟨208, [(10, .bool true)]⟩ : AF) ∧ σ = (chT (.slice 1 0 bl.length (some cm)) L C T R F W U t u 0 rq.length c (qF rq) (bF bl)).2) (chT (.slice 1 0 bl.length (some cm)) L C T R F W U t u 0 rq.length c (qF rq) (bF bl)).1 (chT (.slice 1 0 bl.length (some cm)) L C T R F W U t u 0 rq.length c (qF rq) (bF bl)).2 := by
  obtain ⟨m, hm, hbad, hok⟩ := first_bad hq
  refine loop_fam (X := XCo4) XCo4_ok (by kernel_rfl) rfl [1, 2, 3, 4, 5, 10, 11] (ι := {i : Nat // i ≤ m}) (fun i => chT (.slice 1 0 bl.length (some cm)) L C T R F W U t u (i.1 : Int) rq.length c (qF rq) (bF bl)) (fun i => rq.length - i.1) _ (fun _ => chS_scr)
    (fun i N Q => chS_VC L C T R F W U t u (i.1 : Int) rq.length c bl.length cm (qF rq) (bF bl) N Q ()) (fun i N Q => chS_vc L C T R F W U t u (i.1 : Int) rq.length c bl.length cm (qF rq) (bF bl) N Q ()) ?_ ⟨0, Nat.zero_le _⟩
  rintro ⟨i, hi⟩
  refine chS_ok (show i < rq.length by omega) hn (fun h => ?_) (fun h => ?_)
  · have hlt : i < m := by
      rcases Nat.lt_or_eq_of_le hi with h1 | h1
      · exact h1
      · subst h1; exact absurd h hbad
    refine ⟨⟨i + 1, hlt⟩, [(0, 0), (1, 1), (2, 2)], (show rq.length - (i + 1) < rq.length - i by omega), rfl, ⟨.inr ⟨pfs_qF, rfl⟩, .inr ⟨hb, rfl⟩, ⟨rfl, .inr ⟨rfl, rfl⟩⟩, trivial⟩, rfl, ⟨rfl, rfl, rfl, rfl, rfl, rfl, trivial⟩⟩
  · exact ⟨[(0, 0), (1, 1), (2, 2)], (⟨208, [(10, .bool true)]⟩ : AF), (chT (.slice 1 0 bl.length (some cm)) L C T R F W U t u 0 rq.length c (qF rq) (bF bl)).2, ⟨rfl, ⟨.inr ⟨pfs_qF, rfl⟩, .inr ⟨hb, rfl⟩, ⟨rfl, .inr ⟨rfl, rfl⟩⟩, trivial⟩, rfl, ⟨rfl, trivial⟩⟩, rfl, rfl, rfl⟩
theorem cmS_ok {L C T R F W U t e : Int} {rq : List Rq} {bl : List Bool} {i : Nat} {c cm : Nat} {N : NS} {Q : QS} (hi : i < rq.length) (hn : rq.length ≤ 60)
    (ho : rowOk L C T R F W U rq (fun i => bl.getD i false) t i) (hq : stepE (rq.getD i default).k (rq.getD i default).a (rq.getD i default).v (rq.getD i default).n = 0) (hb0 : 0 ≤ (rowE L C T R F W U rq (fun i => bl.getD i false) t i)) (hb1 : (rowE L C T R F W U rq (fun i => bl.getD i false) t i) ≤ 1099511626776)
    (hN : N 208 [some (.slice 0 0 rq.length (some c)), some (.slice 1 0 bl.length (some cm)), some (.ptr 2 0), some (.slice 3 0 rq.length none), some (.int .i64 e), some (.int .i64 (rowE L C T R F W U rq (fun i => bl.getD i false) t (i + 1))), some (.int .i64 ((i + 1 : Nat) : Int))] ⟨4, (3, .opn 2 1 (encI .i64 (rowAcc L C T R F W U rq (fun i => bl.getD i false) t rq.length))) :: rwH L C T R F W U (qF rq) (bF bl)⟩) :
    cmS_VC L C T R F W U e (rowE L C T R F W U rq (fun i => bl.getD i false) t i) (i : Int) rq.length c bl.length cm (qF rq) (bF bl) (rowAcc L C T R F W U rq (fun i => bl.getD i false) t rq.length) N Q () := by
  unfold cmS_VC
  have hlt : decide ((i : Int) < (rq.length : Int)) = true := by simp; omega
  have hge : decide ((0 : Int) ≤ (i : Int) ∧ (i : Int) < (rq.length : Int)) = true := by simp; omega
  have hle : decide (0 + Int.toNat (i : Int) * 4 + 4 ≤ (qF rq).length) = true := by rw [qF_len]; simp; omega
  have hw : IntKind.i64.wrap ((i : Int) + 1) = ((i + 1 : Nat) : Int) := by rw [wrap_in (by omega) (by omega)]; omega
  have hla : (encI .i64 (rowAcc L C T R F W U rq (fun i => bl.getD i false) t rq.length)).length = rq.length := by simp [encI, rowAcc]
  have m4 : decide (0 + Int.toNat (i : Int) * 4 + 3 < (qF rq).length) = true := by rw [qF_len]; simp; omega
  have hlb : decide (0 + Int.toNat (i : Int) * 1 < rq.length) = true := by simp; omega
  unfold rowOk at ho
  rw [hlt, hge, hle, hw, hla, hlb, qF0 hi, qF1 hi, qF2 hi, qF3 hi, acc_get hi]
  by_cases hm : i < bl.length
  · have m1 : decide ((i : Int) < (bl.length : Int)) = true := by simp; omega
    have m2 : decide ((0 : Int) ≤ (i : Int) ∧ (i : Int) < (bl.length : Int)) = true := by simp; omega
    have m3 : decide (0 + Int.toNat (i : Int) * 1 < (bF bl).length) = true := by simp [bF]; omega
    rw [bF_get hm]
    obtain ⟨f1, f2, f3, f4⟩ := cm_facts (bl.getD i false) ho hq hb0 hb1
    repeat rw [toI_int]
    try rw [toB_bool]
    simp only [m4, m1, m2, m3, f1, f2, f3, f4, ho, AV.isI, AV.isB, AV.toI, AV.toB, rowA, decide_true, decide_false, Bool.not_true, Bool.not_false, forall_const, true_and, and_true, reduceCtorEq, false_implies, implies_true, Bool.false_eq_true, ge_iff_le, gt_iff_lt]
    exact hN
  · have m1 : decide ((i : Int) < (bl.length : Int)) = false := by simp; omega
    have hs : bl.getD i false = false := by simp [List.getD, List.getElem?_eq_none (show bl.length ≤ i by omega)]
    have hN' := hN
    simp only [rowE, rowA, hs] at hN' ⊢
    obtain ⟨f1, f2, f3, f4⟩ := cm_facts false ho hq hb0 hb1
    repeat rw [toI_int]
    try rw [toB_bool]
    simp only [m4, m1, f1, f2, f3, f4, ho, AV.isI, AV.isB, AV.toI, AV.toB, rowA, decide_true, decide_false, Bool.not_true, Bool.not_false, forall_const, true_and, and_true, reduceCtorEq, false_implies, implies_true, Bool.false_eq_true, ge_iff_le, gt_iff_lt]
    exact hN'
theorem cmS_wl {L C T R F W U t e : Int} {rq : List Rq} {bl : List Bool} {c cm : Nat} (hb : pfs (bF bl) = true) (hn : rq.length ≤ 60) (hq : rqsOk rq) (hk : okF L C T R F W U = true) (h0 : 0 ≤ t) (h1 : t + 31 * rq.length ≤ 1099511626776) :
    WL Try.prog 2 (loopAt Try.prog 14 1) (fun x fr σ => x = .exit 2 ∧ fr = (cmT (.slice 1 0 bl.length (some cm)) L C T R F W U e (rowE L C T R F W U rq (fun i => bl.getD i false) t rq.length) rq.length rq.length c (qF rq) (bF bl) (rowAcc L C T R F W U rq (fun i => bl.getD i false) t rq.length)).1 ∧ σ = (cmT (.slice 1 0 bl.length (some cm)) L C T R F W U e (rowE L C T R F W U rq (fun i => bl.getD i false) t rq.length) rq.length rq.length c (qF rq) (bF bl) (rowAcc L C T R F W U rq (fun i => bl.getD i false) t rq.length)).2) (cmT (.slice 1 0 bl.length (some cm)) L C T R F W U e t 0 rq.length c (qF rq) (bF bl) (rowAcc L C T R F W U rq (fun i => bl.getD i false) t rq.length)).1 (cmT (.slice 1 0 bl.length (some cm)) L C T R F W U e t 0 rq.length c (qF rq) (bF bl) (rowAcc L C T R F W U rq (fun i => bl.getD i false) t rq.length)).2 := by
  refine loop_fam (X := XCo4) XCo4_ok (by kernel_rfl) rfl [1, 2, 5, 12, 13, 22, 23] (ι := {i : Nat // i ≤ rq.length}) (fun i => cmT (.slice 1 0 bl.length (some cm)) L C T R F W U e (rowE L C T R F W U rq (fun i => bl.getD i false) t i.1) (i.1 : Int) rq.length c (qF rq) (bF bl) (rowAcc L C T R F W U rq (fun i => bl.getD i false) t rq.length)) (fun i => rq.length - i.1) _ (fun _ => cmS_scr)
    (fun i N Q => cmS_VC L C T R F W U e (rowE L C T R F W U rq (fun i => bl.getD i false) t i.1) (i.1 : Int) rq.length c bl.length cm (qF rq) (bF bl) (rowAcc L C T R F W U rq (fun i => bl.getD i false) t rq.length) N Q ()) (fun i N Q => cmS_vc L C T R F W U e (rowE L C T R F W U rq (fun i => bl.getD i false) t i.1) (i.1 : Int) rq.length c bl.length cm (qF rq) (bF bl) (rowAcc L C T R F W U rq (fun i => bl.getD i false) t rq.length) N Q ()) ?_ ⟨0, Nat.zero_le _⟩
  rintro ⟨i, hi⟩
  obtain ⟨q0, q1⟩ := rowE_bd (sl := fun i => bl.getD i false) hk hq h0 h1 hi
  have q2 : 0 ≤ (rowE L C T R F W U rq (fun i => bl.getD i false) t i) ∧ (rowE L C T R F W U rq (fun i => bl.getD i false) t i) ≤ 1099511626776 := by omega
  by_cases hlt : i < rq.length
  · refine cmS_ok hlt hn (rowOk_of hk hq h0 h1 hlt) (rqs_get hq hlt) q2.1 q2.2 ?_
    refine ⟨⟨i + 1, hlt⟩, [(0, 0), (1, 1), (2, 2), (3, 3)], (show rq.length - (i + 1) < rq.length - i by omega), rfl, ⟨.inr ⟨pfs_qF, rfl⟩, .inr ⟨hb, rfl⟩, ⟨rfl, .inr ⟨rfl, rfl⟩⟩, ⟨rfl, rfl, .inr ⟨pfs_encI, rfl⟩⟩, trivial⟩, rfl, ⟨rfl, rfl, rfl, rfl, rfl, rfl, rfl, trivial⟩⟩
  · have e : i = rq.length := by omega
    subst e
    unfold cmS_VC
    have hf : decide ((rq.length : Int) < (rq.length : Int)) = false := decide_eq_false (by omega)
    rw [hf]
    refine ⟨fun h => (by cases h), fun _ => ?_⟩
    exact ⟨[(0, 0), (1, 1), (2, 2), (3, 3)], (cmT (.slice 1 0 bl.length (some cm)) L C T R F W U _ (rowE L C T R F W U rq (fun i => bl.getD i false) t rq.length) rq.length rq.length c (qF rq) (bF bl) (rowAcc L C T R F W U rq (fun i => bl.getD i false) t rq.length)).1, (cmT (.slice 1 0 bl.length (some cm)) L C T R F W U 0 (rowE L C T R F W U rq (fun i => bl.getD i false) t rq.length) rq.length rq.length c (qF rq) (bF bl) (rowAcc L C T R F W U rq (fun i => bl.getD i false) t rq.length)).2, ⟨rfl, ⟨.inr ⟨pfs_qF, rfl⟩, .inr ⟨hb, rfl⟩, ⟨rfl, .inr ⟨rfl, rfl⟩⟩, ⟨rfl, rfl, .inr ⟨pfs_encI, rfl⟩⟩, trivial⟩, rfl, ⟨rfl, rfl, rfl, rfl, rfl, rfl, rfl, trivial⟩⟩, rfl, rfl, rfl⟩
end Go.Proofs.Ytnfelncgeihihaa.V
namespace Go.Proofs.Ytnfelncgeihihaa.V
open Go Go.Proofs
set_option maxRecDepth 100000
set_option linter.unusedSimpArgs false
set_option linter.unusedVariables false
noncomputable def rowT (T : Tr1) : Trs := fun g => if Nat.beq g 45 = true then some T else purT purCo4 g
theorem rowT_ok {T : Tr1} (h : TrOk Try.prog 45 T) : TrsOk Try.prog (rowT T) := by
  intro g T' e
  unfold rowT at e
  split at e
  · rename_i hk
    cases e
    rw [Nat.eq_of_beq_eq_true hk]
    exact h
  · exact purT_ok purCo4_ok g T' e
theorem rw2_loops : loopsOf (bodyOf Try.prog 14) 0 = [(0, loopAt Try.prog 14 0), (2, loopAt Try.prog 14 1)] := by kernel_rfl
theorem okRow5 : okFunsX Try.prog [45] = true := by kernel_rfl
noncomputable def XCo5 : Cx := cxP Try.prog purCo4 [45]
theorem XCo5_ok : CxOk (cxP Try.prog purCo4 [45]) := cxP_ok mixed purCo4_ok okRow5
def LChN (L C T R F W U t u : Int) (rq : List Rq) (bs : List AV) (c : Nat) : LTr := fun n0 fr σ s K => need (n0 = 2) ∧ need (Fits 2 [(0, 0), (1, 1), (2, 2)] fr σ (chT .nilslice L C T R F W U t u 0 rq.length c (qF rq) bs).1 (chT .nilslice L C T R F W U t u 0 rq.length c (qF rq) bs).2) ∧ need (pfs bs = true ∧ rq.length ≤ 60 ∧ rqsOk rq) ∧ K (.exit 0) (chT .nilslice L C T R F W U t u rq.length rq.length c (qF rq) bs).1 (chT .nilslice L C T R F W U t u rq.length rq.length c (qF rq) bs).2 s
theorem LChN_ok (L C T R F W U t u : Int) (rq : List Rq) (bs : List AV) (c : Nat) : LOk Try.prog (loopAt Try.prog 14 0) (LChN L C T R F W U t u rq bs c) := by
  rintro n0 fr σ s Q ⟨h0, hf, ⟨h1, h2, h3⟩, hq⟩
  cases (h0 : n0 = 2)
  intro E a w hE hs
  refine (WL.less (chN_wl h1 h2 h3) ?_) E a w hE (Fits.refines hf E hE a w hs)
  rintro e fr σ ⟨rfl, rfl, rfl⟩
  exact ⟨_, _, fun E _ a w h => h, s, hq⟩
def LBdN (L C T R F W U t u : Int) (rq : List Rq) (bs : List AV) (c : Nat) : LTr := fun n0 fr σ s K => need (n0 = 2) ∧ need (Fits 2 [(0, 0), (1, 1), (2, 2)] fr σ (chT .nilslice L C T R F W U t u 0 rq.length c (qF rq) bs).1 (chT .nilslice L C T R F W U t u 0 rq.length c (qF rq) bs).2) ∧ need (pfs bs = true ∧ rq.length ≤ 60 ∧ ¬ rqsOk rq) ∧ K .ret (⟨208, [(10, .bool true)]⟩ : AF) (chT .nilslice L C T R F W U t u 0 rq.length c (qF rq) bs).2 s
theorem LBdN_ok (L C T R F W U t u : Int) (rq : List Rq) (bs : List AV) (c : Nat) : LOk Try.prog (loopAt Try.prog 14 0) (LBdN L C T R F W U t u rq bs c) := by
  rintro n0 fr σ s Q ⟨h0, hf, ⟨h1, h2, h3⟩, hq⟩
  cases (h0 : n0 = 2)
  intro E a w hE hs
  refine (WL.less (chN_bad h1 h2 h3) ?_) E a w hE (Fits.refines hf E hE a w hs)
  rintro e fr σ ⟨rfl, rfl, rfl⟩
  exact ⟨_, _, fun E _ a w h => h, s, hq⟩
def LCmN (L C T R F W U t u : Int) (rq : List Rq) (bs : List AV) (c : Nat) : LTr := fun n0 fr σ s K => need (n0 = 2) ∧ need (Fits 2 [(0, 0), (1, 1), (2, 2), (3, 3)] fr σ (cmT .nilslice L C T R F W U (rowE L C T R F W U rq (fun _ => false) t rq.length) t 0 rq.length c (qF rq) bs (rowAcc L C T R F W U rq (fun _ => false) t rq.length)).1 (cmT .nilslice L C T R F W U (rowE L C T R F W U rq (fun _ => false) t rq.length) t 0 rq.length c (qF rq) bs (rowAcc L C T R F W U rq (fun _ => false) t rq.length)).2) ∧ need (pfs bs = true ∧ rq.length ≤ 60 ∧ rqsOk rq ∧ okF L C T R F W U = true ∧ 0 ≤ t ∧ t + 31 * rq.length ≤ 1099511626776) ∧ K (.exit 2) (cmT .nilslice L C T R F W U (rowE L C T R F W U rq (fun _ => false) t rq.length) (rowE L C T R F W U rq (fun _ => false) t rq.length) rq.length rq.length c (qF rq) bs (rowAcc L C T R F W U rq (fun _ => false) t rq.length)).1 (cmT .nilslice L C T R F W U (rowE L C T R F W U rq (fun _ => false) t rq.length) (rowE L C T R F W U rq (fun _ => false) t rq.length) rq.length rq.length c (qF rq) bs (rowAcc L C T R F W U rq (fun _ => false) t rq.length)).2 s
theorem LCmN_ok (L C T R F W U t u : Int) (rq : List Rq) (bs : List AV) (c : Nat) : LOk Try.prog (loopAt Try.prog 14 1) (LCmN L C T R F W U t u rq bs c) := by
  rintro n0 fr σ s Q ⟨h0, hf, ⟨h1, h2, h3, h4, h5, h6⟩, hq⟩
  cases (h0 : n0 = 2)
  intro E a w hE hs
  refine (WL.less (cmN_wl h1 h2 h3 h4 h5 h6) ?_) E a w hE (Fits.refines hf E hE a w hs)
  rintro e fr σ ⟨rfl, rfl, rfl⟩
  exact ⟨_, _, fun E _ a w h => h, s, hq⟩
noncomputable def XLwN (L C T R F W U t u : Int) (rq : List Rq) (bs : List AV) (c : Nat) : Cx := ⟨Try.prog, rowT (rowTrN L C T R F W U rq bs c), purO purCo4, purCo4.map (·.1), 20, lookL [(0, LChN L C T R F W U t u rq bs c), (2, LCmN L C T R F W U t u rq bs c)]⟩
theorem XLwN_ok (L C T R F W U t u : Int) (rq : List Rq) (bs : List AV) (c : Nat) : CxOk (XLwN L C T R F W U t u rq bs c) := ⟨rowT_ok (rowTrN_ok L C T R F W U rq bs c), purO_ok purCo4_ok, mixed⟩
noncomputable def XLbN (L C T R F W U t u : Int) (rq : List Rq) (bs : List AV) (c : Nat) : Cx := ⟨Try.prog, rowT (rowTrN L C T R F W U rq bs c), purO purCo4, purCo4.map (·.1), 20, lookL [(0, LBdN L C T R F W U t u rq bs c)]⟩
theorem XLbN_ok (L C T R F W U t u : Int) (rq : List Rq) (bs : List AV) (c : Nat) : CxOk (XLbN L C T R F W U t u rq bs c) := ⟨rowT_ok (rowTrN_ok L C T R F W U rq bs c), purO_ok purCo4_ok, mixed⟩
def LChE (L C T R F W U t u : Int) (rq : List Rq) (bs : List AV) (c : Nat) : LTr := fun n0 fr σ s K => need (n0 = 2) ∧ need (Fits 2 [(0, 0), (1, 1), (2, 2)] fr σ (chT (.slice 1 0 0 none) L C T R F W U t u 0 rq.length c (qF rq) bs).1 (chT (.slice 1 0 0 none) L C T R F W U t u 0 rq.length c (qF rq) bs).2) ∧ need (pfs bs = true ∧ rq.length ≤ 60 ∧ rqsOk rq) ∧ K (.exit 0) (chT (.slice 1 0 0 none) L C T R F W U t u rq.length rq.length c (qF rq) bs).1 (chT (.slice 1 0 0 none) L C T R F W U t u rq.length rq.length c (qF rq) bs).2 s
theorem LChE_ok (L C T R F W U t u : Int) (rq : List Rq) (bs : List AV) (c : Nat) : LOk Try.prog (loopAt Try.prog 14 0) (LChE L C T R F W U t u rq bs c) := by
  rintro n0 fr σ s Q ⟨h0, hf, ⟨h1, h2, h3⟩, hq⟩
  cases (h0 : n0 = 2)
  intro E a w hE hs
  refine (WL.less (chE_wl h1 h2 h3) ?_) E a w hE (Fits.refines hf E hE a w hs)
  rintro e fr σ ⟨rfl, rfl, rfl⟩
  exact ⟨_, _, fun E _ a w h => h, s, hq⟩
def LBdE (L C T R F W U t u : Int) (rq : List Rq) (bs : List AV) (c : Nat) : LTr := fun n0 fr σ s K => need (n0 = 2) ∧ need (Fits 2 [(0, 0), (1, 1), (2, 2)] fr σ (chT (.slice 1 0 0 none) L C T R F W U t u 0 rq.length c (qF rq) bs).1 (chT (.slice 1 0 0 none) L C T R F W U t u 0 rq.length c (qF rq) bs).2) ∧ need (pfs bs = true ∧ rq.length ≤ 60 ∧ ¬ rqsOk rq) ∧ K .ret (⟨208, [(10, .bool true)]⟩ : AF) (chT (.slice 1 0 0 none) L C T R F W U t u 0 rq.length c (qF rq) bs).2 s
theorem LBdE_ok (L C T R F W U t u : Int) (rq : List Rq) (bs : List AV) (c : Nat) : LOk Try.prog (loopAt Try.prog 14 0) (LBdE L C T R F W U t u rq bs c) := by
  rintro n0 fr σ s Q ⟨h0, hf, ⟨h1, h2, h3⟩, hq⟩
  cases (h0 : n0 = 2)
  intro E a w hE hs
  refine (WL.less (chE_bad h1 h2 h3) ?_) E a w hE (Fits.refines hf E hE a w hs)
  rintro e fr σ ⟨rfl, rfl, rfl⟩
  exact ⟨_, _, fun E _ a w h => h, s, hq⟩
def LCmE (L C T R F W U t u : Int) (rq : List Rq) (bs : List AV) (c : Nat) : LTr := fun n0 fr σ s K => need (n0 = 2) ∧ need (Fits 2 [(0, 0), (1, 1), (2, 2), (3, 3)] fr σ (cmT (.slice 1 0 0 none) L C T R F W U (rowE L C T R F W U rq (fun _ => false) t rq.length) t 0 rq.length c (qF rq) bs (rowAcc L C T R F W U rq (fun _ => false) t rq.length)).1 (cmT (.slice 1 0 0 none) L C T R F W U (rowE L C T R F W U rq (fun _ => false) t rq.length) t 0 rq.length c (qF rq) bs (rowAcc L C T R F W U rq (fun _ => false) t rq.length)).2) ∧ need (pfs bs = true ∧ rq.length ≤ 60 ∧ rqsOk rq ∧ okF L C T R F W U = true ∧ 0 ≤ t ∧ t + 31 * rq.length ≤ 1099511626776) ∧ K (.exit 2) (cmT (.slice 1 0 0 none) L C T R F W U (rowE L C T R F W U rq (fun _ => false) t rq.length) (rowE L C T R F W U rq (fun _ => false) t rq.length) rq.length rq.length c (qF rq) bs (rowAcc L C T R F W U rq (fun _ => false) t rq.length)).1 (cmT (.slice 1 0 0 none) L C T R F W U (rowE L C T R F W U rq (fun _ => false) t rq.length) (rowE L C T R F W U rq (fun _ => false) t rq.length) rq.length rq.length c (qF rq) bs (rowAcc L C T R F W U rq (fun _ => false) t rq.length)).2 s
theorem LCmE_ok (L C T R F W U t u : Int) (rq : List Rq) (bs : List AV) (c : Nat) : LOk Try.prog (loopAt Try.prog 14 1) (LCmE L C T R F W U t u rq bs c) := by
  rintro n0 fr σ s Q ⟨h0, hf, ⟨h1, h2, h3, h4, h5, h6⟩, hq⟩
  cases (h0 : n0 = 2)
  intro E a w hE hs
  refine (WL.less (cmE_wl h1 h2 h3 h4 h5 h6) ?_) E a w hE (Fits.refines hf E hE a w hs)
  rintro e fr σ ⟨rfl, rfl, rfl⟩
  exact ⟨_, _, fun E _ a w h => h, s, hq⟩
noncomputable def XLwE (L C T R F W U t u : Int) (rq : List Rq) (bs : List AV) (c : Nat) : Cx := ⟨Try.prog, rowT (rowTrE L C T R F W U rq bs c), purO purCo4, purCo4.map (·.1), 20, lookL [(0, LChE L C T R F W U t u rq bs c), (2, LCmE L C T R F W U t u rq bs c)]⟩
theorem XLwE_ok (L C T R F W U t u : Int) (rq : List Rq) (bs : List AV) (c : Nat) : CxOk (XLwE L C T R F W U t u rq bs c) := ⟨rowT_ok (rowTrE_ok L C T R F W U rq bs c), purO_ok purCo4_ok, mixed⟩
noncomputable def XLbE (L C T R F W U t u : Int) (rq : List Rq) (bs : List AV) (c : Nat) : Cx := ⟨Try.prog, rowT (rowTrE L C T R F W U rq bs c), purO purCo4, purCo4.map (·.1), 20, lookL [(0, LBdE L C T R F W U t u rq bs c)]⟩
theorem XLbE_ok (L C T R F W U t u : Int) (rq : List Rq) (bs : List AV) (c : Nat) : CxOk (XLbE L C T R F W U t u rq bs c) := ⟨rowT_ok (rowTrE_ok L C T R F W U rq bs c), purO_ok purCo4_ok, mixed⟩
def LChS (L C T R F W U t u : Int) (rq : List Rq) (bl : List Bool) (c cm : Nat) : LTr := fun n0 fr σ s K => need (n0 = 2) ∧ need (Fits 2 [(0, 0), (1, 1), (2, 2)] fr σ (chT (.slice 1 0 bl.length (some cm)) L C T R F W U t u 0 rq.length c (qF rq) (bF bl)).1 (chT (.slice 1 0 bl.length (some cm)) L C T R F W U t u 0 rq.length c (qF rq) (bF bl)).2) ∧ need (pfs (bF bl) = true ∧ rq.length ≤ 60 ∧ rqsOk rq) ∧ K (.exit 0) (chT (.slice 1 0 bl.length (some cm)) L C T R F W U t u rq.length rq.length c (qF rq) (bF bl)).1 (chT (.slice 1 0 bl.length (some cm)) L C T R F W U t u rq.length rq.length c (qF rq) (bF bl)).2 s
theorem LChS_ok (L C T R F W U t u : Int) (rq : List Rq) (bl : List Bool) (c cm : Nat) : LOk Try.prog (loopAt Try.prog 14 0) (LChS L C T R F W U t u rq bl c cm) := by
  rintro n0 fr σ s Q ⟨h0, hf, ⟨h1, h2, h3⟩, hq⟩
  cases (h0 : n0 = 2)
  intro E a w hE hs
  refine (WL.less (chS_wl h1 h2 h3) ?_) E a w hE (Fits.refines hf E hE a w hs)
  rintro e fr σ ⟨rfl, rfl, rfl⟩
  exact ⟨_, _, fun E _ a w h => h, s, hq⟩
def LBdS (L C T R F W U t u : Int) (rq : List Rq) (bl : List Bool) (c cm : Nat) : LTr := fun n0 fr σ s K => need (n0 = 2) ∧ need (Fits 2 [(0, 0), (1, 1), (2, 2)] fr σ (chT (.slice 1 0 bl.length (some cm)) L C T R F W U t u 0 rq.length c (qF rq) (bF bl)).1 (chT (.slice 1 0 bl.length (some cm)) L C T R F W U t u 0 rq.length c (qF rq) (bF bl)).2) ∧ need (pfs (bF bl) = true ∧ rq.length ≤ 60 ∧ ¬ rqsOk rq) ∧ K .ret (⟨208, [(10, .bool true)]⟩ : AF) (chT (.slice 1 0 bl.length (some cm)) L C T R F W U t u 0 rq.length c (qF rq) (bF bl)).2 s
theorem LBdS_ok (L C T R F W U t u : Int) (rq : List Rq) (bl : List Bool) (c cm : Nat) : LOk Try.prog (loopAt Try.prog 14 0) (LBdS L C T R F W U t u rq bl c cm) := by
  rintro n0 fr σ s Q ⟨h0, hf, ⟨h1, h2, h3⟩, hq⟩
  cases (h0 : n0 = 2)
  intro E a w hE hs
  refine (WL.less (chS_bad h1 h2 h3) ?_) E a w hE (Fits.refines hf E hE a w hs)
  rintro e fr σ ⟨rfl, rfl, rfl⟩
  exact ⟨_, _, fun E _ a w h => h, s, hq⟩
def LCmS (L C T R F W U t u : Int) (rq : List Rq) (bl : List Bool) (c cm : Nat) : LTr := fun n0 fr σ s K => need (n0 = 2) ∧ need (Fits 2 [(0, 0), (1, 1), (2, 2), (3, 3)] fr σ (cmT (.slice 1 0 bl.length (some cm)) L C T R F W U (rowE L C T R F W U rq (fun i => bl.getD i false) t rq.length) t 0 rq.length c (qF rq) (bF bl) (rowAcc L C T R F W U rq (fun i => bl.getD i false) t rq.length)).1 (cmT (.slice 1 0 bl.length (some cm)) L C T R F W U (rowE L C T R F W U rq (fun i => bl.getD i false) t rq.length) t 0 rq.length c (qF rq) (bF bl) (rowAcc L C T R F W U rq (fun i => bl.getD i false) t rq.length)).2) ∧ need (pfs (bF bl) = true ∧ rq.length ≤ 60 ∧ rqsOk rq ∧ okF L C T R F W U = true ∧ 0 ≤ t ∧ t + 31 * rq.length ≤ 1099511626776) ∧ K (.exit 2) (cmT (.slice 1 0 bl.length (some cm)) L C T R F W U (rowE L C T R F W U rq (fun i => bl.getD i false) t rq.length) (rowE L C T R F W U rq (fun i => bl.getD i false) t rq.length) rq.length rq.length c (qF rq) (bF bl) (rowAcc L C T R F W U rq (fun i => bl.getD i false) t rq.length)).1 (cmT (.slice 1 0 bl.length (some cm)) L C T R F W U (rowE L C T R F W U rq (fun i => bl.getD i false) t rq.length) (rowE L C T R F W U rq (fun i => bl.getD i false) t rq.length) rq.length rq.length c (qF rq) (bF bl) (rowAcc L C T R F W U rq (fun i => bl.getD i false) t rq.length)).2 s
theorem LCmS_ok (L C T R F W U t u : Int) (rq : List Rq) (bl : List Bool) (c cm : Nat) : LOk Try.prog (loopAt Try.prog 14 1) (LCmS L C T R F W U t u rq bl c cm) := by
  rintro n0 fr σ s Q ⟨h0, hf, ⟨h1, h2, h3, h4, h5, h6⟩, hq⟩
  cases (h0 : n0 = 2)
  intro E a w hE hs
  refine (WL.less (cmS_wl h1 h2 h3 h4 h5 h6) ?_) E a w hE (Fits.refines hf E hE a w hs)
  rintro e fr σ ⟨rfl, rfl, rfl⟩
  exact ⟨_, _, fun E _ a w h => h, s, hq⟩
noncomputable def XLwS (L C T R F W U t u : Int) (rq : List Rq) (bl : List Bool) (c cm : Nat) : Cx := ⟨Try.prog, rowT (rowTrS L C T R F W U rq bl c cm), purO purCo4, purCo4.map (·.1), 20, lookL [(0, LChS L C T R F W U t u rq bl c cm), (2, LCmS L C T R F W U t u rq bl c cm)]⟩
theorem XLwS_ok (L C T R F W U t u : Int) (rq : List Rq) (bl : List Bool) (c cm : Nat) : CxOk (XLwS L C T R F W U t u rq bl c cm) := ⟨rowT_ok (rowTrS_ok L C T R F W U rq bl c cm), purO_ok purCo4_ok, mixed⟩
noncomputable def XLbS (L C T R F W U t u : Int) (rq : List Rq) (bl : List Bool) (c cm : Nat) : Cx := ⟨Try.prog, rowT (rowTrS L C T R F W U rq bl c cm), purO purCo4, purCo4.map (·.1), 20, lookL [(0, LBdS L C T R F W U t u rq bl c cm)]⟩
theorem XLbS_ok (L C T R F W U t u : Int) (rq : List Rq) (bl : List Bool) (c cm : Nat) : CxOk (XLbS L C T R F W U t u rq bl c cm) := ⟨rowT_ok (rowTrS_ok L C T R F W U rq bl c cm), purO_ok purCo4_ok, mixed⟩
end Go.Proofs.Ytnfelncgeihihaa.V
