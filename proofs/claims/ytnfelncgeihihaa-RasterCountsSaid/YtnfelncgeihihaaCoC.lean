/- contend: what a request answers; waits, plainly. -/
import Derived.Test.YtnfelncgeihihaaCoW
import Derived.Laws.BitsAllLaws
namespace Go.Proofs.Ytnfelncgeihihaa.V
open Go Go.Proofs
set_option maxRecDepth 100000
set_option maxHeartbeats 4000000
set_option linter.unusedSimpArgs false
set_option linter.unusedVariables false
def evenB (a : Int) : Bool := decide (bits .and .u16 a 1 = 0)
def wtN (w : Int → Int) (c : Bool) (t : Int) : Int := if c = true then IntKind.i64.wrap (t + w t) else t
def inc (t : Int) : Int := IntKind.i64.wrap (t + 1)
def ioAt (w : Int → Int) (sl ev : Bool) (t : Int) : Int := wtN w (sl || ev) (inc (wtN w sl t))
def ioEnd (w : Int → Int) (sl ev : Bool) (t : Int) : Int := inc (wtN w (sl && !ev) (inc (wtN w (sl && !ev) (inc (ioAt w sl ev t)))))
def reqErr (L C T R F W U k a v n t : Int) : Int := if okF L C T R F W U = true ∧ stepE k a v n = 0 ∧ ¬ t < 0 ∧ ¬ t > 1099511626776 then 0 else 2
def reqAt (L C T R F W U k a v n : Int) (sl : Bool) (t : Int) : Int :=
  if reqErr L C T R F W U k a v n t = 0 then (if k = 6 then t else if k = 4 ∨ k = 5 then ioAt (waitN L C T R F W U) sl (evenB a) t else wtN (waitN L C T R F W U) sl t) else 0
def reqEnd (L C T R F W U k a v n : Int) (sl : Bool) (t : Int) : Int :=
  if reqErr L C T R F W U k a v n t = 0 then (if k = 6 then IntKind.i64.wrap (t + n) else if k = 4 ∨ k = 5 then ioEnd (waitN L C T R F W U) sl (evenB a) t else IntKind.i64.wrap (wtN (waitN L C T R F W U) sl t + n)) else 0
theorem stepE_cases (k a v n : Int) : stepE k a v n = 0 ∨ stepE k a v n = 2 := by unfold stepE; split <;> simp
theorem req_ok (L C T R F W U k a v n : Int) (sl : Bool) (t : Int) : req_VC L C T R F W U k a v n sl t (fun u => u = .tup [.int .i64 (reqAt L C T R F W U k a v n sl t), .int .i64 (reqEnd L C T R F W U k a v n sl t), .int .i64 (reqErr L C T R F W U k a v n t)]) := by
  unfold req_VC reqAt reqEnd reqErr
  by_cases hok : okF L C T R F W U = true
  · have hs := stepE_cases k a v n
    generalize stepE k a v n = se at hs ⊢
    rcases hs with rfl | rfl
    · by_cases h0 : t < 0
      · have h1 : ¬ t > 1099511626776 := by omega
        simp [hok, h0, h1]
      · by_cases h1 : t > 1099511626776
        · simp [hok, h0, h1]
        · generalize waitN L C T R F W U = w
          by_cases k6 : k = 6
          · simp [hok, h0, h1, k6]
          · by_cases k4 : k = 4
            · cases sl <;> by_cases he : bits .and .u16 a 1 = 0 <;> simp [hok, h0, h1, k6, k4, he, evenB, ioAt, ioEnd, wtN, inc]
            · by_cases k5 : k = 5
              · cases sl <;> by_cases he : bits .and .u16 a 1 = 0 <;> simp [hok, h0, h1, k6, k4, k5, he, evenB, ioAt, ioEnd, wtN, inc]
              · cases sl <;> simp [hok, h0, h1, k6, k4, k5, wtN]
    · simp [hok]
  · simp [hok]
def reqF : List AV → Option AV
  | [.agg [.int .i64 L, .int .i64 C, .int .i64 T, .int .i64 R, .int .i64 F, .int .i64 W, .int .i64 U], .agg [.int .i64 k, .int .u16 a, .int .u8 v, .int .i64 n], .bool sl, .int .i64 t] =>
    some (.tup [.int .i64 (reqAt L C T R F W U k a v n sl t), .int .i64 (reqEnd L C T R F W U k a v n sl t), .int .i64 (reqErr L C T R F W U k a v n t)])
  | _ => none
theorem req_tr : TrOk Try.prog 39 (pureT reqF) := by
  refine pureT_ok ?_
  intro xs v h
  unfold reqF at h
  split at h
  · cases h; exact ⟨rfl, rfl, sc_of_vc XCo2_ok (by kernel_rfl) (req_vc _ _ _ _ _ _ _ _ _ _ _ _ _ _) (req_ok _ _ _ _ _ _ _ _ _ _ _ _ _)⟩
  · cases h
def mostN (L C T R F W U k : Int) : Int := if okF L C T R F W U = true ∧ ¬ W = 0 ∧ ¬ R = 0 ∧ ¬ k = 6 then (if k = 4 ∨ k = 5 then 24 else 6) else 0
theorem most_ok (L C T R F W U k a v n : Int) : most_VC L C T R F W U k a v n (fun u => u = .int .i64 (mostN L C T R F W U k)) := by
  unfold most_VC mostN
  by_cases hok : okF L C T R F W U = true
  · by_cases hW : W = 0 <;> by_cases hR : R = 0 <;> by_cases k6 : k = 6 <;> by_cases k4 : k = 4 <;> by_cases k5 : k = 5 <;> simp [hok, hW, hR, k6, k4, k5]
  · simp [hok]
def mostF : List AV → Option AV
  | [.agg [.int .i64 L, .int .i64 C, .int .i64 T, .int .i64 R, .int .i64 F, .int .i64 W, .int .i64 U], .agg [.int .i64 k, .int .u16 a, .int .u8 v, .int .i64 n]] => some (.int .i64 (mostN L C T R F W U k))
  | _ => none
theorem most_tr : TrOk Try.prog 42 (pureT mostF) := by
  refine pureT_ok ?_
  intro xs v h
  unfold mostF at h
  split at h
  · cases h; exact ⟨rfl, rfl, sc_of_vc XCo2_ok (by kernel_rfl) (most_vc _ _ _ _ _ _ _ _ _ _ _ _) (most_ok _ _ _ _ _ _ _ _ _ _ _)⟩
  · cases h
def purCo3 : Pur := (39, reqF) :: (42, mostF) :: purCo2
theorem purCo3_ok : PurOk Try.prog purCo3 := PurOk.cons req_tr (PurOk.cons most_tr purCo2_ok)
noncomputable def XCo3 : Cx := cxP Try.prog purCo3 []
theorem XCo3_ok : CxOk (cxP Try.prog purCo3 []) := cxP_ok mixed purCo3_ok rfl
end Go.Proofs.Ytnfelncgeihihaa.V
