/- contend: rows of requests (part 4): Row's loop. contend: rows of requests (part 5): Row's first round. contend: rows of requests (part 6): Row's loop, whole. Printed by gen_rwf.py. -/
import Derived.Test.YtnfelncgeihihaaRwV
import Derived.Test.YtnfelncgeihihaaRwC
namespace Go.Proofs.Ytnfelncgeihihaa.V
open Go Go.Proofs
set_option maxRecDepth 100000
set_option maxHeartbeats 2000000
set_option linter.unusedSimpArgs false
set_option linter.unusedVariables false
/-- A request: its kind, address, value, length. -/
structure Rq where
  k : Int
  a : Int
  v : Int
  n : Int
instance : Inhabited Rq := ⟨⟨0, 0, 0, 0⟩⟩
def Rq.cells (q : Rq) : List AV := [.int .i64 q.k, .int .u16 q.a, .int .u8 q.v, .int .i64 q.n]
def qF (rq : List Rq) : List AV := (rq.map Rq.cells).flatten
def bF (bl : List Bool) : List AV := bl.map AV.bool
theorem qF_get {rq : List Rq} {i j : Nat} (h : i < rq.length) (hj : j < 4) : (qF rq)[i * 4 + j]? = ((rq.getD i default).cells)[j]? := by
  unfold qF
  rw [flat_get (c := 4) (fun l hl => by obtain ⟨q, _, rfl⟩ := List.mem_map.1 hl; rfl) i j hj (by simpa using h)]
  simp [List.getElem?_map, List.getD, h]
theorem qF_len (rq : List Rq) : (qF rq).length = rq.length * 4 := by
  unfold qF
  rw [flat_len (c := 4) (fun l hl => by obtain ⟨q, _, rfl⟩ := List.mem_map.1 hl; rfl)]
  simp
theorem qF0 {rq : List Rq} {i : Nat} (h : i < rq.length) : (qF rq).getD (0 + Int.toNat (i : Int) * 4) (.tup []) = .int .i64 (rq.getD i default).k := by
  have := qF_get h (show 0 < 4 by omega)
  rw [List.getD_eq_getElem?_getD, show 0 + Int.toNat (i : Int) * 4 = i * 4 + 0 by simp, this]; rfl
theorem qF1 {rq : List Rq} {i : Nat} (h : i < rq.length) : (qF rq).getD (0 + Int.toNat (i : Int) * 4 + 1) (.tup []) = .int .u16 (rq.getD i default).a := by
  have := qF_get h (show 1 < 4 by omega)
  rw [List.getD_eq_getElem?_getD, show 0 + Int.toNat (i : Int) * 4 + 1 = i * 4 + 1 by simp, this]; rfl
theorem qF2 {rq : List Rq} {i : Nat} (h : i < rq.length) : (qF rq).getD (0 + Int.toNat (i : Int) * 4 + 1 + 1) (.tup []) = .int .u8 (rq.getD i default).v := by
  have := qF_get h (show 2 < 4 by omega)
  rw [List.getD_eq_getElem?_getD, show 0 + Int.toNat (i : Int) * 4 + 1 + 1 = i * 4 + 2 by simp, this]; rfl
theorem qF3 {rq : List Rq} {i : Nat} (h : i < rq.length) : (qF rq).getD (0 + Int.toNat (i : Int) * 4 + 1 + 1 + 1) (.tup []) = .int .i64 (rq.getD i default).n := by
  have := qF_get h (show 3 < 4 by omega)
  rw [List.getD_eq_getElem?_getD, show 0 + Int.toNat (i : Int) * 4 + 1 + 1 + 1 = i * 4 + 3 by simp, this]; rfl
theorem bF_get {bl : List Bool} {i : Nat} (h : i < bl.length) : (bF bl).getD (0 + Int.toNat (i : Int) * 1) (.tup []) = .bool (bl.getD i false) := by
  simp [bF, List.getD, h]
/-- The time at which request i begins to be asked for. -/
def rowE (L C T R F W U : Int) (rq : List Rq) (sl : Nat → Bool) (t : Int) : Nat → Int
  | 0 => t
  | i + 1 => reqEnd L C T R F W U (rq.getD i default).k (rq.getD i default).a (rq.getD i default).v (rq.getD i default).n (sl i) (rowE L C T R F W U rq sl t i)
def rowA (L C T R F W U : Int) (rq : List Rq) (sl : Nat → Bool) (t : Int) (i : Nat) : Int := reqAt L C T R F W U (rq.getD i default).k (rq.getD i default).a (rq.getD i default).v (rq.getD i default).n (sl i) (rowE L C T R F W U rq sl t i)
def rowOk (L C T R F W U : Int) (rq : List Rq) (sl : Nat → Bool) (t : Int) (i : Nat) : Prop := reqErr L C T R F W U (rq.getD i default).k (rq.getD i default).a (rq.getD i default).v (rq.getD i default).n (rowE L C T R F W U rq sl t i) = 0
def rowAcc (L C T R F W U : Int) (rq : List Rq) (sl : Nat → Bool) (t : Int) (i : Nat) : List Int := (List.range i).map (rowA L C T R F W U rq sl t)
theorem rowAcc_succ {L C T R F W U : Int} {rq : List Rq} {sl : Nat → Bool} {t : Int} {i : Nat} : encI .i64 (rowAcc L C T R F W U rq sl t (i + 1)) = encI .i64 (rowAcc L C T R F W U rq sl t i) ++ [.int .i64 (rowA L C T R F W U rq sl t i)] := by
  simp [encI, rowAcc, List.range_succ]
theorem pfs_encI {k : IntKind} : ∀ {ns : List Int}, pfs (encI k ns) = true
  | [] => by simp [encI]
  | z :: r => by
    have := pfs_encI (k := k) (ns := r)
    unfold encI at this ⊢
    simp [this]
theorem pfs_qF : ∀ {rq : List Rq}, pfs (qF rq) = true
  | [] => by simp [qF]
  | q :: r => by
    have := pfs_qF (rq := r)
    unfold qF at this ⊢
    simp [Rq.cells, this]
theorem pfs_bF : ∀ {bl : List Bool}, pfs (bF bl) = true
  | [] => by simp [bF]
  | z :: r => by
    have := pfs_bF (bl := r)
    unfold bF at this ⊢
    simp [this]
/-- A later round, where there are slow ones. -/
theorem rwRS_ok {L C T R F W U t : Int} {rq : List Rq} {bl : List Bool} {i c cm : Nat} {N : NS} {Q : QS} (hi : i < rq.length) (h1 : 1 ≤ i) (hn : rq.length ≤ 60)
    (ho : rowOk L C T R F W U rq (fun i => bl.getD i false) t i)
    (hN : ∀ σ : AH, σ.get 0 = .ro (qF rq) → σ.get 1 = .ro (bF bl) → σ.get 2 = (rwH L C T R F W U (qF rq) (bF bl)).head!.2 → σ.get 6 = .opn 2 1 (encI .i64 (rowAcc L C T R F W U rq (fun i => bl.getD i false) t (i + 1))) → ∀ z, N 50 [some (.slice 1 0 bl.length (some cm)), some (.ptr 2 0), some (.slice 6 0 (i + 1) none), some (.int .i64 (rowE L C T R F W U rq (fun i => bl.getD i false) t (i + 1))), z, some (.slice 0 0 rq.length (some c)), some (.int .i64 rq.length), some (.int .i64 ((i + 1 : Nat) : Int))] σ) :
    rwRS_VC L C T R F W U (rowE L C T R F W U rq (fun i => bl.getD i false) t i) i rq.length c bl.length cm i (qF rq) (bF bl) (rowAcc L C T R F W U rq (fun i => bl.getD i false) t i) N Q () := by
  unfold rwRS_VC
  have hlt : decide ((i : Int) < (rq.length : Int)) = true := by simp; omega
  have hge : decide ((0 : Int) ≤ (i : Int) ∧ (i : Int) < (rq.length : Int)) = true := by simp; omega
  have hle : decide (0 + Int.toNat (i : Int) * 4 + 4 ≤ (qF rq).length) = true := by rw [qF_len]; simp; omega
  have hw : IntKind.i64.wrap ((i : Int) + 1) = ((i + 1 : Nat) : Int) := by rw [wrap_in (by omega) (by omega)]; omega
  have hla : (encI .i64 (rowAcc L C T R F W U rq (fun i => bl.getD i false) t i)).length = i := by simp [encI, rowAcc]
  rw [hlt, hge, hle, hw, hla]
  rw [qF0 hi, qF1 hi, qF2 hi, qF3 hi]
  unfold rowOk at ho
  have k1 : decide (0 < i) = true := by simp; omega
  have k2 : decide (i * 1 = i) = true := by simp
  have k3 : decide ((i + 1) * 8 ≤ 140737488355328) = true := by simp; omega
  have k4 : decide (i + 1 ≤ 140737488355328) = true := by simp; omega
  by_cases hm : i < bl.length
  · have m1 : decide ((i : Int) < (bl.length : Int)) = true := by simp; omega
    have m2 : decide ((0 : Int) ≤ (i : Int) ∧ (i : Int) < (bl.length : Int)) = true := by simp; omega
    have m3 : decide (0 + Int.toNat (i : Int) * 1 < (bF bl).length) = true := by simp [bF]; omega
    rw [bF_get hm]
    simp only [m1, m2, m3, k1, k2, k3, k4, ho, AV.isI, AV.isB, AV.toI, AV.toB, decide_true, Bool.not_true, forall_const, true_and, and_true, reduceCtorEq, false_implies, Bool.false_eq_true]
    simp
    refine hN _ rfl rfl rfl ?_ _
    rw [rowAcc_succ]; rfl
  · have m1 : decide ((i : Int) < (bl.length : Int)) = false := by simp; omega
    have hs : bl.getD i false = false := by simp [List.getD, List.getElem?_eq_none (show bl.length ≤ i by omega)]
    simp only [m1, k1, k2, k3, k4, ho, AV.isI, AV.isB, AV.toI, AV.toB, decide_true, Bool.not_true, forall_const, true_and, and_true, reduceCtorEq, false_implies, Bool.false_eq_true]
    simp
    have hN' := hN
    simp only [rowE, hs] at hN'
    refine hN' _ rfl rfl rfl ?_ _
    rw [rowAcc_succ]; unfold rowA; simp only [hs]; rfl
/-- A later round, where there are no slow ones (N). -/
theorem rwRN_ok {L C T R F W U t : Int} {rq : List Rq} {bs : List AV} {i c : Nat} {N : NS} {Q : QS} (hi : i < rq.length) (h1 : 1 ≤ i) (hn : rq.length ≤ 60)
    (ho : rowOk L C T R F W U rq (fun _ => false) t i)
    (hN : ∀ σ : AH, σ.get 0 = .ro (qF rq) → σ.get 1 = .ro bs → σ.get 2 = (rwH L C T R F W U (qF rq) bs).head!.2 → σ.get 6 = .opn 2 1 (encI .i64 (rowAcc L C T R F W U rq (fun _ => false) t (i + 1))) → ∀ z, N 50 [some AV.nilslice, some (.ptr 2 0), some (.slice 6 0 (i + 1) none), some (.int .i64 (rowE L C T R F W U rq (fun _ => false) t (i + 1))), z, some (.slice 0 0 rq.length (some c)), some (.int .i64 rq.length), some (.int .i64 ((i + 1 : Nat) : Int))] σ) :
    rwRN_VC L C T R F W U (rowE L C T R F W U rq (fun _ => false) t i) i rq.length c i (qF rq) bs (rowAcc L C T R F W U rq (fun _ => false) t i) N Q () := by
  unfold rwRN_VC
  have hlt : decide ((i : Int) < (rq.length : Int)) = true := by simp; omega
  have hge : decide ((0 : Int) ≤ (i : Int) ∧ (i : Int) < (rq.length : Int)) = true := by simp; omega
  have hle : decide (0 + Int.toNat (i : Int) * 4 + 4 ≤ (qF rq).length) = true := by rw [qF_len]; simp; omega
  have hw : IntKind.i64.wrap ((i : Int) + 1) = ((i + 1 : Nat) : Int) := by rw [wrap_in (by omega) (by omega)]; omega
  have hla : (encI .i64 (rowAcc L C T R F W U rq (fun _ => false) t i)).length = i := by simp [encI, rowAcc]
  rw [hlt, hge, hle, hw, hla]
  rw [qF0 hi, qF1 hi, qF2 hi, qF3 hi]
  unfold rowOk at ho
  have k1 : decide (0 < i) = true := by simp; omega
  have k2 : decide (i * 1 = i) = true := by simp
  have k3 : decide ((i + 1) * 8 ≤ 140737488355328) = true := by simp; omega
  have k4 : decide (i + 1 ≤ 140737488355328) = true := by simp; omega
  have m1 : decide ((i : Int) < 0) = false := by simp
  simp only [m1, k1, k2, k3, k4, ho, AV.isI, AV.isB, AV.toI, AV.toB, decide_true, Bool.not_true, forall_const, true_and, and_true, reduceCtorEq, false_implies, Bool.false_eq_true]
  refine hN _ rfl rfl rfl ?_ _
  rw [rowAcc_succ]; rfl
/-- A later round, where there are no slow ones (E). -/
theorem rwRE_ok {L C T R F W U t : Int} {rq : List Rq} {bs : List AV} {i c : Nat} {N : NS} {Q : QS} (hi : i < rq.length) (h1 : 1 ≤ i) (hn : rq.length ≤ 60)
    (ho : rowOk L C T R F W U rq (fun _ => false) t i)
    (hN : ∀ σ : AH, σ.get 0 = .ro (qF rq) → σ.get 1 = .ro bs → σ.get 2 = (rwH L C T R F W U (qF rq) bs).head!.2 → σ.get 6 = .opn 2 1 (encI .i64 (rowAcc L C T R F W U rq (fun _ => false) t (i + 1))) → ∀ z, N 50 [some (AV.slice 1 0 0 none), some (.ptr 2 0), some (.slice 6 0 (i + 1) none), some (.int .i64 (rowE L C T R F W U rq (fun _ => false) t (i + 1))), z, some (.slice 0 0 rq.length (some c)), some (.int .i64 rq.length), some (.int .i64 ((i + 1 : Nat) : Int))] σ) :
    rwRE_VC L C T R F W U (rowE L C T R F W U rq (fun _ => false) t i) i rq.length c i (qF rq) bs (rowAcc L C T R F W U rq (fun _ => false) t i) N Q () := by
  unfold rwRE_VC
  have hlt : decide ((i : Int) < (rq.length : Int)) = true := by simp; omega
  have hge : decide ((0 : Int) ≤ (i : Int) ∧ (i : Int) < (rq.length : Int)) = true := by simp; omega
  have hle : decide (0 + Int.toNat (i : Int) * 4 + 4 ≤ (qF rq).length) = true := by rw [qF_len]; simp; omega
  have hw : IntKind.i64.wrap ((i : Int) + 1) = ((i + 1 : Nat) : Int) := by rw [wrap_in (by omega) (by omega)]; omega
  have hla : (encI .i64 (rowAcc L C T R F W U rq (fun _ => false) t i)).length = i := by simp [encI, rowAcc]
  rw [hlt, hge, hle, hw, hla]
  rw [qF0 hi, qF1 hi, qF2 hi, qF3 hi]
  unfold rowOk at ho
  have k1 : decide (0 < i) = true := by simp; omega
  have k2 : decide (i * 1 = i) = true := by simp
  have k3 : decide ((i + 1) * 8 ≤ 140737488355328) = true := by simp; omega
  have k4 : decide (i + 1 ≤ 140737488355328) = true := by simp; omega
  have m1 : decide ((i : Int) < 0) = false := by simp
  simp only [m1, k1, k2, k3, k4, ho, AV.isI, AV.isB, AV.toI, AV.toB, decide_true, Bool.not_true, forall_const, true_and, and_true, reduceCtorEq, false_implies, Bool.false_eq_true]
  refine hN _ rfl rfl rfl ?_ _
  rw [rowAcc_succ]; rfl
end Go.Proofs.Ytnfelncgeihihaa.V
namespace Go.Proofs.Ytnfelncgeihihaa.V
open Go Go.Proofs
set_option maxRecDepth 100000
set_option maxHeartbeats 2000000
set_option linter.unusedSimpArgs false
set_option linter.unusedVariables false
/-- The first round (N). -/
theorem rwFN_ok {L C T R F W U t : Int} {rq : List Rq} {bs : List AV} {c : Nat} {N : NS} {Q : QS} (hi : 0 < rq.length)
    (ho : rowOk L C T R F W U rq (fun _ => false) t 0)
    (hN : ∀ σ : AH, σ.get 0 = .ro (qF rq) → σ.get 1 = .ro bs → σ.get 2 = (rwH L C T R F W U (qF rq) bs).head!.2 → σ.get 5 = .opn 2 1 (encI .i64 (rowAcc L C T R F W U rq (fun _ => false) t 1)) → ∀ z, N 50 [some AV.nilslice, some (.ptr 2 0), some (.slice 5 0 1 none), some (.int .i64 (rowE L C T R F W U rq (fun _ => false) t 1)), z, some (.slice 0 0 rq.length (some c)), some (.int .i64 rq.length), some (.int .i64 1)] σ) :
    rwFN_VC L C T R F W U t rq.length c (qF rq) bs N Q () := by
  unfold rwFN_VC
  have hlt : decide ((0 : Int) < (rq.length : Int)) = true := by simp; omega
  have hge : decide ((0 : Int) ≤ (0 : Int) ∧ (0 : Int) < (rq.length : Int)) = true := by simp; omega
  have hle : decide (4 ≤ (qF rq).length) = true := by rw [qF_len]; simp; omega
  rw [hlt, hge, hle]
  have q0 := qF0 (i := 0) hi
  have q1 := qF1 (i := 0) hi
  have q2 := qF2 (i := 0) hi
  have q3 := qF3 (i := 0) hi
  simp only [Int.toNat_natCast, Nat.zero_mul, Nat.add_zero, Nat.zero_add, Nat.reduceAdd] at q0 q1 q2 q3
  rw [q0, q1, q2, q3]
  unfold rowOk rowE at ho
  simp only [ho, AV.isI, AV.isB, AV.toI, AV.toB, decide_true, Bool.not_true, forall_const, true_and, and_true, reduceCtorEq, false_implies, Bool.false_eq_true]
  exact hN _ rfl rfl rfl rfl _
/-- The first round (E). -/
theorem rwFE_ok {L C T R F W U t : Int} {rq : List Rq} {bs : List AV} {c : Nat} {N : NS} {Q : QS} (hi : 0 < rq.length)
    (ho : rowOk L C T R F W U rq (fun _ => false) t 0)
    (hN : ∀ σ : AH, σ.get 0 = .ro (qF rq) → σ.get 1 = .ro bs → σ.get 2 = (rwH L C T R F W U (qF rq) bs).head!.2 → σ.get 5 = .opn 2 1 (encI .i64 (rowAcc L C T R F W U rq (fun _ => false) t 1)) → ∀ z, N 50 [some (AV.slice 1 0 0 none), some (.ptr 2 0), some (.slice 5 0 1 none), some (.int .i64 (rowE L C T R F W U rq (fun _ => false) t 1)), z, some (.slice 0 0 rq.length (some c)), some (.int .i64 rq.length), some (.int .i64 1)] σ) :
    rwFE_VC L C T R F W U t rq.length c (qF rq) bs N Q () := by
  unfold rwFE_VC
  have hlt : decide ((0 : Int) < (rq.length : Int)) = true := by simp; omega
  have hge : decide ((0 : Int) ≤ (0 : Int) ∧ (0 : Int) < (rq.length : Int)) = true := by simp; omega
  have hle : decide (4 ≤ (qF rq).length) = true := by rw [qF_len]; simp; omega
  rw [hlt, hge, hle]
  have q0 := qF0 (i := 0) hi
  have q1 := qF1 (i := 0) hi
  have q2 := qF2 (i := 0) hi
  have q3 := qF3 (i := 0) hi
  simp only [Int.toNat_natCast, Nat.zero_mul, Nat.add_zero, Nat.zero_add, Nat.reduceAdd] at q0 q1 q2 q3
  rw [q0, q1, q2, q3]
  unfold rowOk rowE at ho
  simp only [ho, AV.isI, AV.isB, AV.toI, AV.toB, decide_true, Bool.not_true, forall_const, true_and, and_true, reduceCtorEq, false_implies, Bool.false_eq_true]
  exact hN _ rfl rfl rfl rfl _
/-- The first round (S). -/
theorem rwFS_ok {L C T R F W U t : Int} {rq : List Rq} {bl : List Bool} {c cm : Nat} {N : NS} {Q : QS} (hi : 0 < rq.length)
    (ho : rowOk L C T R F W U rq (fun i => bl.getD i false) t 0)
    (hN : ∀ σ : AH, σ.get 0 = .ro (qF rq) → σ.get 1 = .ro (bF bl) → σ.get 2 = (rwH L C T R F W U (qF rq) (bF bl)).head!.2 → σ.get 5 = .opn 2 1 (encI .i64 (rowAcc L C T R F W U rq (fun i => bl.getD i false) t 1)) → ∀ z, N 50 [some (AV.slice 1 0 bl.length (some cm)), some (.ptr 2 0), some (.slice 5 0 1 none), some (.int .i64 (rowE L C T R F W U rq (fun i => bl.getD i false) t 1)), z, some (.slice 0 0 rq.length (some c)), some (.int .i64 rq.length), some (.int .i64 1)] σ) :
    rwFS_VC L C T R F W U t rq.length c bl.length cm (qF rq) (bF bl) N Q () := by
  unfold rwFS_VC
  have hlt : decide ((0 : Int) < (rq.length : Int)) = true := by simp; omega
  have hge : decide ((0 : Int) ≤ (0 : Int) ∧ (0 : Int) < (rq.length : Int)) = true := by simp; omega
  have hle : decide (4 ≤ (qF rq).length) = true := by rw [qF_len]; simp; omega
  rw [hlt, hge, hle]
  have q0 := qF0 (i := 0) hi
  have q1 := qF1 (i := 0) hi
  have q2 := qF2 (i := 0) hi
  have q3 := qF3 (i := 0) hi
  simp only [Int.toNat_natCast, Nat.zero_mul, Nat.add_zero, Nat.zero_add, Nat.reduceAdd] at q0 q1 q2 q3
  rw [q0, q1, q2, q3]
  unfold rowOk rowE at ho
  by_cases hm : 0 < bl.length
  · have m1 : decide ((0 : Int) < (bl.length : Int)) = true := decide_eq_true (by omega)
    have m2 : decide ((0 : Int) ≤ (0 : Int) ∧ (0 : Int) < (bl.length : Int)) = true := decide_eq_true (by omega)
    have m3 : decide (0 < (bF bl).length) = true := decide_eq_true (by rw [show (bF bl).length = bl.length by simp [bF]]; exact hm)
    have b0 := bF_get (i := 0) hm
    simp only [Int.toNat_natCast, Nat.zero_mul, Nat.add_zero, Nat.zero_add, Nat.reduceAdd] at b0
    rw [b0]
    simp only [m1, m2, m3, ho, AV.isI, AV.isB, AV.toI, AV.toB, decide_true, Bool.not_true, forall_const, true_and, and_true, reduceCtorEq, false_implies, Bool.false_eq_true]
    exact hN _ rfl rfl rfl rfl _
  · have m1 : decide ((0 : Int) < (bl.length : Int)) = false := decide_eq_false (by omega)
    have hs : bl.getD 0 false = false := by simp [List.getD, List.getElem?_eq_none (show bl.length ≤ 0 by omega)]
    simp only [m1, ho, AV.isI, AV.isB, AV.toI, AV.toB, decide_true, Bool.not_true, forall_const, true_and, and_true, reduceCtorEq, false_implies, Bool.false_eq_true]
    have hN' := hN
    simp only [rowE, hs] at hN'
    refine hN' _ rfl rfl rfl ?_ _
    rw [rowAcc_succ]; unfold rowA; simp only [hs]; rfl
end Go.Proofs.Ytnfelncgeihihaa.V
namespace Go.Proofs.Ytnfelncgeihihaa.V
open Go Go.Proofs
set_option maxRecDepth 100000
set_option maxHeartbeats 2000000
set_option linter.unusedSimpArgs false
set_option linter.unusedVariables false
/-- The loop's states (N). -/
def rwTN (L C T R F W U t : Int) (rq : List Rq) (bs : List AV) (c : Nat) : Nat → AF × AH
  | 0 => rwT0 .nilslice L C T R F W U t rq.length c (qF rq) bs
  | i + 1 => rwT .nilslice L C T R F W U (rowE L C T R F W U rq (fun _ => false) t (i + 1)) ((i + 1 : Nat) : Int) rq.length c (i + 1) (qF rq) bs (rowAcc L C T R F W U rq (fun _ => false) t (i + 1))
def rwXN (L C T R F W U t : Int) (rq : List Rq) (bs : List AV) : AF × AH := (⟨50, [(8, .slice 3 0 rq.length none), (9, .int .i64 (rowE L C T R F W U rq (fun _ => false) t rq.length))]⟩, ⟨4, (3, .opn 2 1 (encI .i64 (rowAcc L C T R F W U rq (fun _ => false) t rq.length))) :: rwH L C T R F W U (qF rq) bs⟩)
theorem rwN_wl {L C T R F W U t : Int} {rq : List Rq} {bs : List AV} {c : Nat} (hb : pfs bs = true) (hn : rq.length ≤ 60) (h0 : 0 < rq.length) (ho : ∀ i, i < rq.length → rowOk L C T R F W U rq (fun _ => false) t i) :
    WL Try.prog 2 (loopAt Try.prog 45 0) (fun e fr σ => e = .exit 0 ∧ fr = (rwXN L C T R F W U t rq bs).1 ∧ σ = (rwXN L C T R F W U t rq bs).2) (rwTN L C T R F W U t rq bs c 0).1 (rwTN L C T R F W U t rq bs c 0).2 := by
  refine loop_fam (X := XCo3) XCo3_ok (by kernel_rfl) rfl [2, 4, 8, 9, 10, 15, 16, 17] (ι := {i : Nat // i ≤ rq.length}) (fun i => rwTN L C T R F W U t rq bs c i.1) (fun i => rq.length - i.1) _
    (fun i => match i.1 with | 0 => rwFN_scr | _ + 1 => rwRN_scr)
    (fun i N Q => match i.1 with
      | 0 => rwFN_VC L C T R F W U t rq.length c (qF rq) bs N Q ()
      | i + 1 => rwRN_VC L C T R F W U (rowE L C T R F W U rq (fun _ => false) t (i + 1)) ((i + 1 : Nat) : Int) rq.length c (i + 1) (qF rq) bs (rowAcc L C T R F W U rq (fun _ => false) t (i + 1)) N Q ())
    (fun i N Q => by
      obtain ⟨i, hi⟩ := i
      cases i with
      | zero => exact rwFN_vc L C T R F W U t rq.length c (qF rq) bs N Q ()
      | succ i => exact rwRN_vc L C T R F W U (rowE L C T R F W U rq (fun _ => false) t (i + 1)) ((i + 1 : Nat) : Int) rq.length c (i + 1) (qF rq) bs (rowAcc L C T R F W U rq (fun _ => false) t (i + 1)) N Q ()) ?_ ⟨0, Nat.zero_le _⟩
  rintro ⟨i, hi⟩
  cases i with
  | zero =>
    refine rwFN_ok h0 (ho 0 h0) ?_
    intro σ g0 g1 g2 g5 z
    refine ⟨⟨1, h0⟩, [(0, 0), (1, 1), (2, 2), (5, 3)], (show rq.length - 1 < rq.length - 0 by omega), rfl, ⟨?_, ?_, ?_, ?_, trivial⟩, rfl, ⟨rfl, rfl, rfl, rfl, rfl, rfl, rfl, trivial⟩⟩
    · rw [g0]; exact .inr ⟨pfs_qF, rfl⟩
    · rw [g1]; exact .inr ⟨hb, rfl⟩
    · rw [g2]; exact ⟨rfl, .inr ⟨rfl, rfl⟩⟩
    · rw [g5]; exact ⟨rfl, rfl, .inr ⟨pfs_encI, rfl⟩⟩
  | succ i =>
    by_cases hlt : i + 1 < rq.length
    · refine rwRN_ok hlt (by omega) hn (ho _ hlt) ?_
      intro σ g0 g1 g2 g6 z
      refine ⟨⟨i + 2, hlt⟩, [(0, 0), (1, 1), (2, 2), (6, 3)], (show rq.length - (i + 2) < rq.length - (i + 1) by omega), rfl, ⟨?_, ?_, ?_, ?_, trivial⟩, rfl, ⟨rfl, rfl, rfl, rfl, rfl, rfl, rfl, trivial⟩⟩
      · rw [g0]; exact .inr ⟨pfs_qF, rfl⟩
      · rw [g1]; exact .inr ⟨hb, rfl⟩
      · rw [g2]; exact ⟨rfl, .inr ⟨rfl, rfl⟩⟩
      · rw [g6]; exact ⟨rfl, rfl, .inr ⟨pfs_encI, rfl⟩⟩
    · have e : i + 1 = rq.length := by omega
      show rwRN_VC L C T R F W U (rowE L C T R F W U rq (fun _ => false) t (i + 1)) ((i + 1 : Nat) : Int) rq.length c (i + 1) (qF rq) bs (rowAcc L C T R F W U rq (fun _ => false) t (i + 1)) _ _ ()
      unfold rwRN_VC
      have hf : decide (((i + 1 : Nat) : Int) < (rq.length : Int)) = false := decide_eq_false (by omega)
      rw [hf]
      refine ⟨fun h => (by cases h), fun _ => ?_⟩
      refine ⟨[(0, 0), (1, 1), (2, 2), (3, 3)], (rwXN L C T R F W U t rq bs).1, (rwXN L C T R F W U t rq bs).2, ⟨rfl, ⟨.inr ⟨pfs_qF, rfl⟩, .inr ⟨hb, rfl⟩, ⟨rfl, .inr ⟨rfl, rfl⟩⟩, ⟨rfl, rfl, .inr ⟨pfs_encI, by rw [e]⟩⟩, trivial⟩, rfl, ⟨?_, ?_, trivial⟩⟩, rfl, rfl, rfl⟩
      · rw [← e]; rfl
      · rw [← e]; rfl
/-- The loop's states (E). -/
def rwTE (L C T R F W U t : Int) (rq : List Rq) (bs : List AV) (c : Nat) : Nat → AF × AH
  | 0 => rwT0 (.slice 1 0 0 none) L C T R F W U t rq.length c (qF rq) bs
  | i + 1 => rwT (.slice 1 0 0 none) L C T R F W U (rowE L C T R F W U rq (fun _ => false) t (i + 1)) ((i + 1 : Nat) : Int) rq.length c (i + 1) (qF rq) bs (rowAcc L C T R F W U rq (fun _ => false) t (i + 1))
def rwXE (L C T R F W U t : Int) (rq : List Rq) (bs : List AV) : AF × AH := (⟨50, [(8, .slice 3 0 rq.length none), (9, .int .i64 (rowE L C T R F W U rq (fun _ => false) t rq.length))]⟩, ⟨4, (3, .opn 2 1 (encI .i64 (rowAcc L C T R F W U rq (fun _ => false) t rq.length))) :: rwH L C T R F W U (qF rq) bs⟩)
theorem rwE_wl {L C T R F W U t : Int} {rq : List Rq} {bs : List AV} {c : Nat} (hb : pfs bs = true) (hn : rq.length ≤ 60) (h0 : 0 < rq.length) (ho : ∀ i, i < rq.length → rowOk L C T R F W U rq (fun _ => false) t i) :
    WL Try.prog 2 (loopAt Try.prog 45 0) (fun e fr σ => e = .exit 0 ∧ fr = (rwXE L C T R F W U t rq bs).1 ∧ σ = (rwXE L C T R F W U t rq bs).2) (rwTE L C T R F W U t rq bs c 0).1 (rwTE L C T R F W U t rq bs c 0).2 := by
  refine loop_fam (X := XCo3) XCo3_ok (by kernel_rfl) rfl [2, 4, 8, 9, 10, 15, 16, 17] (ι := {i : Nat // i ≤ rq.length}) (fun i => rwTE L C T R F W U t rq bs c i.1) (fun i => rq.length - i.1) _
    (fun i => match i.1 with | 0 => rwFE_scr | _ + 1 => rwRE_scr)
    (fun i N Q => match i.1 with
      | 0 => rwFE_VC L C T R F W U t rq.length c (qF rq) bs N Q ()
      | i + 1 => rwRE_VC L C T R F W U (rowE L C T R F W U rq (fun _ => false) t (i + 1)) ((i + 1 : Nat) : Int) rq.length c (i + 1) (qF rq) bs (rowAcc L C T R F W U rq (fun _ => false) t (i + 1)) N Q ())
    (fun i N Q => by
      obtain ⟨i, hi⟩ := i
      cases i with
      | zero => exact rwFE_vc L C T R F W U t rq.length c (qF rq) bs N Q ()
      | succ i => exact rwRE_vc L C T R F W U (rowE L C T R F W U rq (fun _ => false) t (i + 1)) ((i + 1 : Nat) : Int) rq.length c (i + 1) (qF rq) bs (rowAcc L C T R F W U rq (fun _ => false) t (i + 1)) N Q ()) ?_ ⟨0, Nat.zero_le _⟩
  rintro ⟨i, hi⟩
  cases i with
  | zero =>
    refine rwFE_ok h0 (ho 0 h0) ?_
    intro σ g0 g1 g2 g5 z
    refine ⟨⟨1, h0⟩, [(0, 0), (1, 1), (2, 2), (5, 3)], (show rq.length - 1 < rq.length - 0 by omega), rfl, ⟨?_, ?_, ?_, ?_, trivial⟩, rfl, ⟨rfl, rfl, rfl, rfl, rfl, rfl, rfl, trivial⟩⟩
    · rw [g0]; exact .inr ⟨pfs_qF, rfl⟩
    · rw [g1]; exact .inr ⟨hb, rfl⟩
    · rw [g2]; exact ⟨rfl, .inr ⟨rfl, rfl⟩⟩
    · rw [g5]; exact ⟨rfl, rfl, .inr ⟨pfs_encI, rfl⟩⟩
  | succ i =>
    by_cases hlt : i + 1 < rq.length
    · refine rwRE_ok hlt (by omega) hn (ho _ hlt) ?_
      intro σ g0 g1 g2 g6 z
      refine ⟨⟨i + 2, hlt⟩, [(0, 0), (1, 1), (2, 2), (6, 3)], (show rq.length - (i + 2) < rq.length - (i + 1) by omega), rfl, ⟨?_, ?_, ?_, ?_, trivial⟩, rfl, ⟨rfl, rfl, rfl, rfl, rfl, rfl, rfl, trivial⟩⟩
      · rw [g0]; exact .inr ⟨pfs_qF, rfl⟩
      · rw [g1]; exact .inr ⟨hb, rfl⟩
      · rw [g2]; exact ⟨rfl, .inr ⟨rfl, rfl⟩⟩
      · rw [g6]; exact ⟨rfl, rfl, .inr ⟨pfs_encI, rfl⟩⟩
    · have e : i + 1 = rq.length := by omega
      show rwRE_VC L C T R F W U (rowE L C T R F W U rq (fun _ => false) t (i + 1)) ((i + 1 : Nat) : Int) rq.length c (i + 1) (qF rq) bs (rowAcc L C T R F W U rq (fun _ => false) t (i + 1)) _ _ ()
      unfold rwRE_VC
      have hf : decide (((i + 1 : Nat) : Int) < (rq.length : Int)) = false := decide_eq_false (by omega)
      rw [hf]
      refine ⟨fun h => (by cases h), fun _ => ?_⟩
      refine ⟨[(0, 0), (1, 1), (2, 2), (3, 3)], (rwXE L C T R F W U t rq bs).1, (rwXE L C T R F W U t rq bs).2, ⟨rfl, ⟨.inr ⟨pfs_qF, rfl⟩, .inr ⟨hb, rfl⟩, ⟨rfl, .inr ⟨rfl, rfl⟩⟩, ⟨rfl, rfl, .inr ⟨pfs_encI, by rw [e]⟩⟩, trivial⟩, rfl, ⟨?_, ?_, trivial⟩⟩, rfl, rfl, rfl⟩
      · rw [← e]; rfl
      · rw [← e]; rfl
/-- The loop's states (S). -/
def rwTS (L C T R F W U t : Int) (rq : List Rq) (bl : List Bool) (c cm : Nat) : Nat → AF × AH
  | 0 => rwT0 (.slice 1 0 bl.length (some cm)) L C T R F W U t rq.length c (qF rq) (bF bl)
  | i + 1 => rwT (.slice 1 0 bl.length (some cm)) L C T R F W U (rowE L C T R F W U rq (fun i => bl.getD i false) t (i + 1)) ((i + 1 : Nat) : Int) rq.length c (i + 1) (qF rq) (bF bl) (rowAcc L C T R F W U rq (fun i => bl.getD i false) t (i + 1))
def rwXS (L C T R F W U t : Int) (rq : List Rq) (bl : List Bool) : AF × AH := (⟨50, [(8, .slice 3 0 rq.length none), (9, .int .i64 (rowE L C T R F W U rq (fun i => bl.getD i false) t rq.length))]⟩, ⟨4, (3, .opn 2 1 (encI .i64 (rowAcc L C T R F W U rq (fun i => bl.getD i false) t rq.length))) :: rwH L C T R F W U (qF rq) (bF bl)⟩)
theorem rwS_wl {L C T R F W U t : Int} {rq : List Rq} {bl : List Bool} {c cm : Nat} (hb : pfs (bF bl) = true) (hn : rq.length ≤ 60) (h0 : 0 < rq.length) (ho : ∀ i, i < rq.length → rowOk L C T R F W U rq (fun i => bl.getD i false) t i) :
    WL Try.prog 2 (loopAt Try.prog 45 0) (fun e fr σ => e = .exit 0 ∧ fr = (rwXS L C T R F W U t rq bl).1 ∧ σ = (rwXS L C T R F W U t rq bl).2) (rwTS L C T R F W U t rq bl c cm 0).1 (rwTS L C T R F W U t rq bl c cm 0).2 := by
  refine loop_fam (X := XCo3) XCo3_ok (by kernel_rfl) rfl [2, 4, 8, 9, 10, 15, 16, 17] (ι := {i : Nat // i ≤ rq.length}) (fun i => rwTS L C T R F W U t rq bl c cm i.1) (fun i => rq.length - i.1) _
    (fun i => match i.1 with | 0 => rwFS_scr | _ + 1 => rwRS_scr)
    (fun i N Q => match i.1 with
      | 0 => rwFS_VC L C T R F W U t rq.length c bl.length cm (qF rq) (bF bl) N Q ()
      | i + 1 => rwRS_VC L C T R F W U (rowE L C T R F W U rq (fun i => bl.getD i false) t (i + 1)) ((i + 1 : Nat) : Int) rq.length c bl.length cm (i + 1) (qF rq) (bF bl) (rowAcc L C T R F W U rq (fun i => bl.getD i false) t (i + 1)) N Q ())
    (fun i N Q => by
      obtain ⟨i, hi⟩ := i
      cases i with
      | zero => exact rwFS_vc L C T R F W U t rq.length c bl.length cm (qF rq) (bF bl) N Q ()
      | succ i => exact rwRS_vc L C T R F W U (rowE L C T R F W U rq (fun i => bl.getD i false) t (i + 1)) ((i + 1 : Nat) : Int) rq.length c bl.length cm (i + 1) (qF rq) (bF bl) (rowAcc L C T R F W U rq (fun i => bl.getD i false) t (i + 1)) N Q ()) ?_ ⟨0, Nat.zero_le _⟩
  rintro ⟨i, hi⟩
  cases i with
  | zero =>
    refine rwFS_ok h0 (ho 0 h0) ?_
    intro σ g0 g1 g2 g5 z
    refine ⟨⟨1, h0⟩, [(0, 0), (1, 1), (2, 2), (5, 3)], (show rq.length - 1 < rq.length - 0 by omega), rfl, ⟨?_, ?_, ?_, ?_, trivial⟩, rfl, ⟨rfl, rfl, rfl, rfl, rfl, rfl, rfl, trivial⟩⟩
    · rw [g0]; exact .inr ⟨pfs_qF, rfl⟩
    · rw [g1]; exact .inr ⟨hb, rfl⟩
    · rw [g2]; exact ⟨rfl, .inr ⟨rfl, rfl⟩⟩
    · rw [g5]; exact ⟨rfl, rfl, .inr ⟨pfs_encI, rfl⟩⟩
  | succ i =>
    by_cases hlt : i + 1 < rq.length
    · refine rwRS_ok hlt (by omega) hn (ho _ hlt) ?_
      intro σ g0 g1 g2 g6 z
      refine ⟨⟨i + 2, hlt⟩, [(0, 0), (1, 1), (2, 2), (6, 3)], (show rq.length - (i + 2) < rq.length - (i + 1) by omega), rfl, ⟨?_, ?_, ?_, ?_, trivial⟩, rfl, ⟨rfl, rfl, rfl, rfl, rfl, rfl, rfl, trivial⟩⟩
      · rw [g0]; exact .inr ⟨pfs_qF, rfl⟩
      · rw [g1]; exact .inr ⟨hb, rfl⟩
      · rw [g2]; exact ⟨rfl, .inr ⟨rfl, rfl⟩⟩
      · rw [g6]; exact ⟨rfl, rfl, .inr ⟨pfs_encI, rfl⟩⟩
    · have e : i + 1 = rq.length := by omega
      show rwRS_VC L C T R F W U (rowE L C T R F W U rq (fun i => bl.getD i false) t (i + 1)) ((i + 1 : Nat) : Int) rq.length c bl.length cm (i + 1) (qF rq) (bF bl) (rowAcc L C T R F W U rq (fun i => bl.getD i false) t (i + 1)) _ _ ()
      unfold rwRS_VC
      have hf : decide (((i + 1 : Nat) : Int) < (rq.length : Int)) = false := decide_eq_false (by omega)
      rw [hf]
      refine ⟨fun h => (by cases h), fun _ => ?_⟩
      refine ⟨[(0, 0), (1, 1), (2, 2), (3, 3)], (rwXS L C T R F W U t rq bl).1, (rwXS L C T R F W U t rq bl).2, ⟨rfl, ⟨.inr ⟨pfs_qF, rfl⟩, .inr ⟨hb, rfl⟩, ⟨rfl, .inr ⟨rfl, rfl⟩⟩, ⟨rfl, rfl, .inr ⟨pfs_encI, by rw [e]⟩⟩, trivial⟩, rfl, ⟨?_, ?_, trivial⟩⟩, rfl, rfl, rfl⟩
      · rw [← e]; rfl
      · rw [← e]; rfl
end Go.Proofs.Ytnfelncgeihihaa.V
