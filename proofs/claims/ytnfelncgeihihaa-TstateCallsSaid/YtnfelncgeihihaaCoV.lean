/- contend: what is known ahead, as transformers. Printed by vc.py: what must hold for functions' ways (CoV). -/
import Derived.Test.YtnfelncgeihihaaCo1
import Derived.Test.YtnfelncgeihihaaCo2
import Derived.Test.YtnfelncgeihihaaV23
namespace Go.Proofs.Ytnfelncgeihihaa.V
open Go Go.Proofs
set_option maxRecDepth 100000
set_option linter.unusedVariables false
theorem tr_of_good {P : Program} {orc : Orc} (g : Good P orc) {f : Nat} {F : List AV → Option AV} (h : orc f = some (pureO F)) : TrOk P f (pureT F) := by
  intro xs σ s K hk
  unfold pureT at hk
  split at hk
  · rename_i v hv
    refine (g.ok f _ h xs σ v σ (by simp [pureO, hv, retV])).mono ?_
    rintro u τ ⟨rfl, rfl⟩
    exact ⟨s, hk⟩
  · exact hk.elim
theorem livesC_sc : SC Try.prog 37 [] h0 (fun u _ => u = .bool true) :=
  run_true good_wait okN_ok (n := 20) (by kernel_rfl)
def livesCF : List AV → Option AV
  | [] => some (.bool true)
  | _ => none
theorem livesC_tr : TrOk Try.prog 37 (pureT livesCF) := by
  refine pureT_ok ?_
  intro xs v h
  unfold livesCF at h
  split at h
  · cases h; exact ⟨rfl, rfl, livesC_sc⟩
  · cases h
def purCo : Pur := [(37, livesCF), (18, checkF), (19, lengthF), (21, spotF), (25, pickF), (40, waitF),
  (27, check2F), (28, length2F), (41, spot2F)]
theorem purCo_ok : PurOk Try.prog purCo :=
  PurOk.cons livesC_tr <| PurOk.cons (tr_of_good good_spot2 rfl) <| PurOk.cons (tr_of_good good_spot2 rfl) <| PurOk.cons (tr_of_good good_spot2 rfl) <| PurOk.cons (tr_of_good good_spot2 rfl) <| PurOk.cons (tr_of_good good_wait rfl) <|
  PurOk.cons (tr_of_good good_spot2 rfl) <| PurOk.cons (tr_of_good good_spot2 rfl) <| PurOk.cons (tr_of_good good_spot2 rfl) PurOk.nil
noncomputable def XCo : Cx := cxP Try.prog purCo []
theorem XCo_ok : CxOk (cxP Try.prog purCo []) := cxP_ok mixed purCo_ok rfl
end Go.Proofs.Ytnfelncgeihihaa.V
namespace Go.Proofs.Ytnfelncgeihihaa.V
open Go Go.Proofs
set_option maxRecDepth 100000
set_option linter.unusedVariables false
def stepC_VC (k a v n : Int) (K : AV → Prop) : Prop :=
 ((decide (k = (1 : Int))) = true →
 ((!!decide (n = (4 : Int))) = true →
 (!!decide (n = (4 : Int))) = true ∧
 ((!!decide (n = (4 : Int))) = true ∧
 ((!!decide (n = (4 : Int))) = true ∧
 (((!decide (v = (0 : Int))) = true →
 (!decide (v = (0 : Int))) = true ∧
 ((!decide (v = (0 : Int))) = true ∧
 ((!!decide (n = (4 : Int))) = true ∧
 ((!decide (v = (0 : Int))) = true ∧
 ((!!decide (n = (4 : Int))) = true ∧
 (((!decide (k = (3 : Int))) = true →
 (!decide (k = (3 : Int))) = true ∧
 ((!decide (k = (3 : Int))) = true ∧
 ((!!decide (n = (4 : Int))) = true ∧
 ((!decide (k = (3 : Int))) = true ∧
 ((!decide (n = (4 : Int))) = false ∧
 (((!decide (k = (5 : Int))) = true →
 K (AV.int IntKind.i64 (2 : Int))) ∧
 ((!decide (k = (5 : Int))) = false →
 K (AV.int IntKind.i64 (0 : Int))))))))) ∧
 ((!decide (k = (3 : Int))) = false →
 (!decide (k = (3 : Int))) = false ∧
 ((!decide (k = (3 : Int))) = false ∧
 ((!!decide (n = (4 : Int))) = true ∧
 ((!decide (k = (3 : Int))) = false ∧
 ((!decide (n = (4 : Int))) = false ∧
 (K (AV.int IntKind.i64 (0 : Int)))))))))))))) ∧
 ((!decide (v = (0 : Int))) = false →
 (!decide (v = (0 : Int))) = false ∧
 ((!decide (v = (0 : Int))) = false ∧
 ((!!decide (n = (4 : Int))) = true ∧
 ((!decide (v = (0 : Int))) = false ∧
 ((!!decide (n = (4 : Int))) = true ∧
 ((!!decide (n = (4 : Int))) = true ∧
 ((!decide (n = (4 : Int))) = false ∧
 (K (AV.int IntKind.i64 (0 : Int)))))))))))))) ∧
 ((!!decide (n = (4 : Int))) = false →
 (!!decide (n = (4 : Int))) = false ∧
 ((!!decide (n = (4 : Int))) = false ∧
 ((!!decide (n = (4 : Int))) = false ∧
 ((!!decide (n = (4 : Int))) = false ∧
 ((!!decide (n = (4 : Int))) = false ∧
 ((!!decide (n = (4 : Int))) = false ∧
 ((!decide (n = (4 : Int))) = true ∧
 (K (AV.int IntKind.i64 (2 : Int))))))))))) ∧
 ((decide (k = (1 : Int))) = false →
 ((decide (k = (2 : Int))) = true →
 (decide (k = (2 : Int))) = true ∧
 (((!!decide (n = (3 : Int))) = true →
 (!!decide (n = (3 : Int))) = true ∧
 ((!!decide (n = (3 : Int))) = true ∧
 ((!!decide (n = (3 : Int))) = true ∧
 (((!decide (v = (0 : Int))) = true →
 (!decide (v = (0 : Int))) = true ∧
 ((!decide (v = (0 : Int))) = true ∧
 ((!!decide (n = (3 : Int))) = true ∧
 ((!decide (v = (0 : Int))) = true ∧
 ((!!decide (n = (3 : Int))) = true ∧
 (((!decide (k = (3 : Int))) = true →
 (!decide (k = (3 : Int))) = true ∧
 ((!decide (k = (3 : Int))) = true ∧
 ((!!decide (n = (3 : Int))) = true ∧
 ((!decide (k = (3 : Int))) = true ∧
 ((!decide (n = (3 : Int))) = false ∧
 (((!decide (k = (5 : Int))) = true →
 K (AV.int IntKind.i64 (2 : Int))) ∧
 ((!decide (k = (5 : Int))) = false →
 K (AV.int IntKind.i64 (0 : Int))))))))) ∧
 ((!decide (k = (3 : Int))) = false →
 (!decide (k = (3 : Int))) = false ∧
 ((!decide (k = (3 : Int))) = false ∧
 ((!!decide (n = (3 : Int))) = true ∧
 ((!decide (k = (3 : Int))) = false ∧
 ((!decide (n = (3 : Int))) = false ∧
 (K (AV.int IntKind.i64 (0 : Int)))))))))))))) ∧
 ((!decide (v = (0 : Int))) = false →
 (!decide (v = (0 : Int))) = false ∧
 ((!decide (v = (0 : Int))) = false ∧
 ((!!decide (n = (3 : Int))) = true ∧
 ((!decide (v = (0 : Int))) = false ∧
 ((!!decide (n = (3 : Int))) = true ∧
 ((!!decide (n = (3 : Int))) = true ∧
 ((!decide (n = (3 : Int))) = false ∧
 (K (AV.int IntKind.i64 (0 : Int)))))))))))))) ∧
 ((!!decide (n = (3 : Int))) = false →
 (!!decide (n = (3 : Int))) = false ∧
 ((!!decide (n = (3 : Int))) = false ∧
 ((!!decide (n = (3 : Int))) = false ∧
 ((!!decide (n = (3 : Int))) = false ∧
 ((!!decide (n = (3 : Int))) = false ∧
 ((!!decide (n = (3 : Int))) = false ∧
 ((!decide (n = (3 : Int))) = true ∧
 (K (AV.int IntKind.i64 (2 : Int)))))))))))) ∧
 ((decide (k = (2 : Int))) = false →
 ((decide (k = (3 : Int))) = true →
 ((!!decide (n = (3 : Int))) = true →
 (!!decide (n = (3 : Int))) = true ∧
 ((!!decide (n = (3 : Int))) = true ∧
 ((!!decide (n = (3 : Int))) = true ∧
 (((!decide (v = (0 : Int))) = true →
 (!decide (v = (0 : Int))) = true ∧
 ((!decide (v = (0 : Int))) = true ∧
 ((!!decide (n = (3 : Int))) = true ∧
 ((!decide (v = (0 : Int))) = true ∧
 ((!!decide (n = (3 : Int))) = true ∧
 ((!decide (k = (3 : Int))) = false ∧
 ((!decide (k = (3 : Int))) = false ∧
 ((!decide (k = (3 : Int))) = false ∧
 ((!!decide (n = (3 : Int))) = true ∧
 ((!decide (k = (3 : Int))) = false ∧
 ((!decide (n = (3 : Int))) = false ∧
 (K (AV.int IntKind.i64 (0 : Int)))))))))))))) ∧
 ((!decide (v = (0 : Int))) = false →
 (!decide (v = (0 : Int))) = false ∧
 ((!decide (v = (0 : Int))) = false ∧
 ((!!decide (n = (3 : Int))) = true ∧
 ((!decide (v = (0 : Int))) = false ∧
 ((!!decide (n = (3 : Int))) = true ∧
 ((!!decide (n = (3 : Int))) = true ∧
 ((!decide (n = (3 : Int))) = false ∧
 (K (AV.int IntKind.i64 (0 : Int)))))))))))))) ∧
 ((!!decide (n = (3 : Int))) = false →
 (!!decide (n = (3 : Int))) = false ∧
 ((!!decide (n = (3 : Int))) = false ∧
 ((!!decide (n = (3 : Int))) = false ∧
 ((!!decide (n = (3 : Int))) = false ∧
 ((!!decide (n = (3 : Int))) = false ∧
 ((!!decide (n = (3 : Int))) = false ∧
 ((!decide (n = (3 : Int))) = true ∧
 (K (AV.int IntKind.i64 (2 : Int))))))))))) ∧
 ((decide (k = (3 : Int))) = false →
 ((decide (k = (4 : Int))) = true →
 (decide (k = (4 : Int))) = true ∧
 (((!!decide (n = (4 : Int))) = true →
 (!!decide (n = (4 : Int))) = true ∧
 ((!!decide (n = (4 : Int))) = true ∧
 ((!!decide (n = (4 : Int))) = true ∧
 (((!decide (v = (0 : Int))) = true →
 (!decide (v = (0 : Int))) = true ∧
 ((!decide (v = (0 : Int))) = true ∧
 ((!!decide (n = (4 : Int))) = true ∧
 ((!decide (v = (0 : Int))) = true ∧
 ((!!decide (n = (4 : Int))) = true ∧
 ((!decide (k = (3 : Int))) = true ∧
 ((!decide (k = (3 : Int))) = true ∧
 ((!decide (k = (3 : Int))) = true ∧
 ((!!decide (n = (4 : Int))) = true ∧
 ((!decide (k = (3 : Int))) = true ∧
 ((!decide (n = (4 : Int))) = false ∧
 (((!decide (k = (5 : Int))) = true →
 K (AV.int IntKind.i64 (2 : Int))) ∧
 ((!decide (k = (5 : Int))) = false →
 K (AV.int IntKind.i64 (0 : Int))))))))))))))) ∧
 ((!decide (v = (0 : Int))) = false →
 (!decide (v = (0 : Int))) = false ∧
 ((!decide (v = (0 : Int))) = false ∧
 ((!!decide (n = (4 : Int))) = true ∧
 ((!decide (v = (0 : Int))) = false ∧
 ((!!decide (n = (4 : Int))) = true ∧
 ((!!decide (n = (4 : Int))) = true ∧
 ((!decide (n = (4 : Int))) = false ∧
 (K (AV.int IntKind.i64 (0 : Int)))))))))))))) ∧
 ((!!decide (n = (4 : Int))) = false →
 (!!decide (n = (4 : Int))) = false ∧
 ((!!decide (n = (4 : Int))) = false ∧
 ((!!decide (n = (4 : Int))) = false ∧
 ((!!decide (n = (4 : Int))) = false ∧
 ((!!decide (n = (4 : Int))) = false ∧
 ((!!decide (n = (4 : Int))) = false ∧
 ((!decide (n = (4 : Int))) = true ∧
 (K (AV.int IntKind.i64 (2 : Int)))))))))))) ∧
 ((decide (k = (4 : Int))) = false →
 ((decide (k = (5 : Int))) = true →
 ((!!decide (n = (4 : Int))) = true →
 (!!decide (n = (4 : Int))) = true ∧
 ((!!decide (n = (4 : Int))) = true ∧
 ((!!decide (n = (4 : Int))) = true ∧
 (((!decide (v = (0 : Int))) = true →
 (!decide (v = (0 : Int))) = true ∧
 ((!decide (v = (0 : Int))) = true ∧
 ((!!decide (n = (4 : Int))) = true ∧
 ((!decide (v = (0 : Int))) = true ∧
 ((!!decide (n = (4 : Int))) = true ∧
 ((!decide (k = (3 : Int))) = true ∧
 ((!decide (k = (3 : Int))) = true ∧
 ((!decide (k = (3 : Int))) = true ∧
 ((!!decide (n = (4 : Int))) = true ∧
 ((!decide (k = (3 : Int))) = true ∧
 ((!decide (n = (4 : Int))) = false ∧
 ((!decide (k = (5 : Int))) = false ∧
 (K (AV.int IntKind.i64 (0 : Int))))))))))))))) ∧
 ((!decide (v = (0 : Int))) = false →
 (!decide (v = (0 : Int))) = false ∧
 ((!decide (v = (0 : Int))) = false ∧
 ((!!decide (n = (4 : Int))) = true ∧
 ((!decide (v = (0 : Int))) = false ∧
 ((!!decide (n = (4 : Int))) = true ∧
 ((!!decide (n = (4 : Int))) = true ∧
 ((!decide (n = (4 : Int))) = false ∧
 (K (AV.int IntKind.i64 (0 : Int)))))))))))))) ∧
 ((!!decide (n = (4 : Int))) = false →
 (!!decide (n = (4 : Int))) = false ∧
 ((!!decide (n = (4 : Int))) = false ∧
 ((!!decide (n = (4 : Int))) = false ∧
 ((!!decide (n = (4 : Int))) = false ∧
 ((!!decide (n = (4 : Int))) = false ∧
 ((!!decide (n = (4 : Int))) = false ∧
 ((!decide (n = (4 : Int))) = true ∧
 (K (AV.int IntKind.i64 (2 : Int))))))))))) ∧
 ((decide (k = (5 : Int))) = false →
 ((decide (k = (7 : Int))) = true →
 ((!!decide (n = (7 : Int))) = true →
 (!!decide (n = (7 : Int))) = true ∧
 ((!!decide (n = (7 : Int))) = true ∧
 ((!!decide (n = (7 : Int))) = true ∧
 (((!decide (v = (0 : Int))) = true →
 (!decide (v = (0 : Int))) = true ∧
 ((!decide (v = (0 : Int))) = true ∧
 ((!!decide (n = (7 : Int))) = true ∧
 ((!decide (v = (0 : Int))) = true ∧
 ((!!decide (n = (7 : Int))) = true ∧
 ((!decide (k = (3 : Int))) = true ∧
 ((!decide (k = (3 : Int))) = true ∧
 ((!decide (k = (3 : Int))) = true ∧
 ((!!decide (n = (7 : Int))) = true ∧
 ((!decide (k = (3 : Int))) = true ∧
 ((!decide (n = (7 : Int))) = false ∧
 ((!decide (k = (5 : Int))) = true ∧
 (K (AV.int IntKind.i64 (2 : Int))))))))))))))) ∧
 ((!decide (v = (0 : Int))) = false →
 (!decide (v = (0 : Int))) = false ∧
 ((!decide (v = (0 : Int))) = false ∧
 ((!!decide (n = (7 : Int))) = true ∧
 ((!decide (v = (0 : Int))) = false ∧
 ((!!decide (n = (7 : Int))) = true ∧
 ((!!decide (n = (7 : Int))) = true ∧
 ((!decide (n = (7 : Int))) = false ∧
 (K (AV.int IntKind.i64 (0 : Int)))))))))))))) ∧
 ((!!decide (n = (7 : Int))) = false →
 (!!decide (n = (7 : Int))) = false ∧
 ((!!decide (n = (7 : Int))) = false ∧
 ((!!decide (n = (7 : Int))) = false ∧
 ((!!decide (n = (7 : Int))) = false ∧
 ((!!decide (n = (7 : Int))) = false ∧
 ((!!decide (n = (7 : Int))) = false ∧
 ((!decide (n = (7 : Int))) = true ∧
 (K (AV.int IntKind.i64 (2 : Int))))))))))) ∧
 ((decide (k = (7 : Int))) = false →
 ((decide (k = (6 : Int))) = true →
 ((!!decide (a = (0 : Int))) = true →
 (!!decide (a = (0 : Int))) = true ∧
 ((!!decide (a = (0 : Int))) = true ∧
 ((!decide (a = (0 : Int))) = false ∧
 (((!!decide (v = (0 : Int))) = true →
 (!!decide (v = (0 : Int))) = true ∧
 ((!!decide (v = (0 : Int))) = true ∧
 ((!decide (v = (0 : Int))) = false ∧
 (((!decide (n < (1 : Int))) = true →
 (!decide (n < (1 : Int))) = true ∧
 ((!decide (n < (1 : Int))) = true ∧
 ((decide (n < (1 : Int))) = false ∧
 (((decide (n > (7 : Int))) = true →
 K (AV.int IntKind.i64 (2 : Int))) ∧
 ((decide (n > (7 : Int))) = false →
 K (AV.int IntKind.i64 (0 : Int))))))) ∧
 ((!decide (n < (1 : Int))) = false →
 (!decide (n < (1 : Int))) = false ∧
 ((!decide (n < (1 : Int))) = false ∧
 ((decide (n < (1 : Int))) = true ∧
 (K (AV.int IntKind.i64 (2 : Int)))))))))) ∧
 ((!!decide (v = (0 : Int))) = false →
 (!!decide (v = (0 : Int))) = false ∧
 ((!!decide (v = (0 : Int))) = false ∧
 ((!decide (v = (0 : Int))) = true ∧
 (K (AV.int IntKind.i64 (2 : Int)))))))))) ∧
 ((!!decide (a = (0 : Int))) = false →
 (!!decide (a = (0 : Int))) = false ∧
 ((!!decide (a = (0 : Int))) = false ∧
 ((!decide (a = (0 : Int))) = true ∧
 (K (AV.int IntKind.i64 (2 : Int))))))) ∧
 ((decide (k = (6 : Int))) = false →
 K (AV.int IntKind.i64 (2 : Int)))))))))
def stepC_scr : Plan := .b (.b (.t (.t (.t (.b (.t (.t (.t (.t (.t (.b (.t (.t (.t (.t (.f (.b (.z) (.z))))))) (.f (.f (.t (.f (.f (.z)))))))))))) (.f (.f (.t (.f (.t (.k (.k (.k (.t (.k (.f (.z)))))))))))))))) (.f (.f (.f (.k (.k (.k (.f (.f (.k (.k (.k (.f (.t (.z))))))))))))))) (.b (.t (.b (.t (.t (.t (.b (.t (.t (.t (.t (.t (.b (.t (.t (.t (.t (.f (.b (.z) (.z))))))) (.f (.f (.t (.f (.f (.z)))))))))))) (.f (.f (.t (.f (.t (.k (.k (.k (.t (.k (.f (.z)))))))))))))))) (.f (.f (.f (.k (.k (.k (.f (.f (.k (.k (.k (.f (.t (.z)))))))))))))))) (.b (.b (.t (.t (.t (.b (.t (.t (.t (.t (.t (.f (.f (.f (.t (.f (.f (.z)))))))))))) (.f (.f (.t (.f (.t (.k (.k (.k (.t (.k (.f (.z)))))))))))))))) (.f (.f (.f (.k (.k (.k (.f (.f (.k (.k (.k (.f (.t (.z))))))))))))))) (.b (.t (.b (.t (.t (.t (.b (.t (.t (.t (.t (.t (.t (.t (.t (.t (.t (.f (.b (.z) (.z))))))))))))) (.f (.f (.t (.f (.t (.k (.k (.k (.t (.k (.f (.z)))))))))))))))) (.f (.f (.f (.k (.k (.k (.f (.f (.k (.k (.k (.f (.t (.z)))))))))))))))) (.b (.b (.t (.t (.t (.b (.t (.t (.t (.t (.t (.t (.t (.t (.t (.t (.f (.f (.z))))))))))))) (.f (.f (.t (.f (.t (.k (.k (.k (.t (.k (.f (.z)))))))))))))))) (.f (.f (.f (.k (.k (.k (.f (.f (.k (.k (.k (.f (.t (.z))))))))))))))) (.b (.b (.t (.t (.t (.b (.t (.t (.t (.t (.t (.t (.t (.t (.t (.t (.f (.t (.z))))))))))))) (.f (.f (.t (.f (.t (.k (.k (.k (.t (.k (.f (.z)))))))))))))))) (.f (.f (.f (.k (.k (.k (.f (.f (.k (.k (.k (.f (.t (.z))))))))))))))) (.b (.b (.t (.t (.f (.b (.t (.t (.f (.b (.t (.t (.f (.b (.z) (.z))))) (.f (.f (.t (.z)))))))) (.f (.f (.t (.z)))))))) (.f (.f (.t (.z))))) (.z)))))))
theorem stepC_vc (k a v n : Int) (K : AV → Prop) : (funP XCo 72 [.agg [.int .i64 k, .int .u16 a, .int .u8 v, .int .i64 n]] h0 stepC_scr (fun v _ _ => K v)) = stepC_VC k a v n K := by kernel_rfl
def stepR_VC (k a v n : Int) (K : AV → Prop) : Prop :=
 ((decide (k = (1 : Int))) = true →
 (decide (k = (1 : Int))) = true ∧
 (((!decide (k = (3 : Int))) = true →
 (!decide (k = (3 : Int))) = true ∧
 ((!decide (k = (3 : Int))) = true ∧
 ((decide (k = (3 : Int))) = false ∧
 (((!!decide (n = (4 : Int))) = true →
 (!!decide (n = (4 : Int))) = true ∧
 ((!!decide (n = (4 : Int))) = true ∧
 (((!decide (k = (5 : Int))) = true →
 (!decide (k = (5 : Int))) = true ∧
 ((!decide (k = (5 : Int))) = true ∧
 ((!!decide (n = (4 : Int))) = true ∧
 ((!decide (k = (5 : Int))) = true ∧
 ((!decide (n = (4 : Int))) = false ∧
 (((!!decide (v = (0 : Int))) = true →
 (!!decide (v = (0 : Int))) = true ∧
 ((!!decide (v = (0 : Int))) = true ∧
 ((!!decide (v = (0 : Int))) = true ∧
 (((decide (k = (6 : Int))) = true →
 (decide (k = (6 : Int))) = true ∧
 ((decide (k = (6 : Int))) = true ∧
 ((!!decide (v = (0 : Int))) = true ∧
 ((decide (k = (6 : Int))) = true ∧
 ((!decide (v = (0 : Int))) = false ∧
 (((!decide (a = (0 : Int))) = true →
 K (AV.int IntKind.i64 (2 : Int))) ∧
 ((!decide (a = (0 : Int))) = false →
 K (AV.int IntKind.i64 (0 : Int))))))))) ∧
 ((decide (k = (6 : Int))) = false →
 (decide (k = (6 : Int))) = false ∧
 ((decide (k = (6 : Int))) = false ∧
 ((!!decide (v = (0 : Int))) = true ∧
 ((decide (k = (6 : Int))) = false ∧
 ((!decide (v = (0 : Int))) = false ∧
 (K (AV.int IntKind.i64 (0 : Int)))))))))))) ∧
 ((!!decide (v = (0 : Int))) = false →
 (!!decide (v = (0 : Int))) = false ∧
 ((!!decide (v = (0 : Int))) = false ∧
 ((!!decide (v = (0 : Int))) = false ∧
 ((!!decide (v = (0 : Int))) = false ∧
 ((!decide (v = (0 : Int))) = true ∧
 (K (AV.int IntKind.i64 (2 : Int)))))))))))))) ∧
 ((!decide (k = (5 : Int))) = false →
 (!decide (k = (5 : Int))) = false ∧
 ((!decide (k = (5 : Int))) = false ∧
 ((!!decide (n = (4 : Int))) = true ∧
 ((!decide (k = (5 : Int))) = false ∧
 ((!decide (n = (4 : Int))) = false ∧
 (((decide (k = (6 : Int))) = true →
 (decide (k = (6 : Int))) = true ∧
 ((decide (k = (6 : Int))) = true ∧
 ((decide (k = (6 : Int))) = true ∧
 (((!decide (a = (0 : Int))) = true →
 K (AV.int IntKind.i64 (2 : Int))) ∧
 ((!decide (a = (0 : Int))) = false →
 K (AV.int IntKind.i64 (0 : Int))))))) ∧
 ((decide (k = (6 : Int))) = false →
 (decide (k = (6 : Int))) = false ∧
 ((decide (k = (6 : Int))) = false ∧
 ((decide (k = (6 : Int))) = false ∧
 (K (AV.int IntKind.i64 (0 : Int))))))))))))))) ∧
 ((!!decide (n = (4 : Int))) = false →
 (!!decide (n = (4 : Int))) = false ∧
 ((!!decide (n = (4 : Int))) = false ∧
 ((!!decide (n = (4 : Int))) = false ∧
 ((!decide (n = (4 : Int))) = true ∧
 (K (AV.int IntKind.i64 (2 : Int))))))))))) ∧
 ((!decide (k = (3 : Int))) = false →
 (!decide (k = (3 : Int))) = false ∧
 ((!decide (k = (3 : Int))) = false ∧
 ((decide (k = (3 : Int))) = true ∧
 (((!!decide (n = (4 : Int))) = true →
 (!!decide (n = (4 : Int))) = true ∧
 ((!!decide (n = (4 : Int))) = true ∧
 ((!!decide (n = (4 : Int))) = true ∧
 ((!decide (n = (4 : Int))) = false ∧
 (((decide (k = (6 : Int))) = true →
 (decide (k = (6 : Int))) = true ∧
 ((decide (k = (6 : Int))) = true ∧
 ((decide (k = (6 : Int))) = true ∧
 (((!decide (a = (0 : Int))) = true →
 K (AV.int IntKind.i64 (2 : Int))) ∧
 ((!decide (a = (0 : Int))) = false →
 K (AV.int IntKind.i64 (0 : Int))))))) ∧
 ((decide (k = (6 : Int))) = false →
 (decide (k = (6 : Int))) = false ∧
 ((decide (k = (6 : Int))) = false ∧
 ((decide (k = (6 : Int))) = false ∧
 (K (AV.int IntKind.i64 (0 : Int))))))))))) ∧
 ((!!decide (n = (4 : Int))) = false →
 (!!decide (n = (4 : Int))) = false ∧
 ((!!decide (n = (4 : Int))) = false ∧
 ((!!decide (n = (4 : Int))) = false ∧
 ((!decide (n = (4 : Int))) = true ∧
 (K (AV.int IntKind.i64 (2 : Int))))))))))))) ∧
 ((decide (k = (1 : Int))) = false →
 ((decide (k = (4 : Int))) = true →
 (decide (k = (4 : Int))) = true ∧
 (((!decide (k = (3 : Int))) = true →
 (!decide (k = (3 : Int))) = true ∧
 ((!decide (k = (3 : Int))) = true ∧
 ((decide (k = (3 : Int))) = false ∧
 (((!!decide (n = (4 : Int))) = true →
 (!!decide (n = (4 : Int))) = true ∧
 ((!!decide (n = (4 : Int))) = true ∧
 (((!decide (k = (5 : Int))) = true →
 (!decide (k = (5 : Int))) = true ∧
 ((!decide (k = (5 : Int))) = true ∧
 ((!!decide (n = (4 : Int))) = true ∧
 ((!decide (k = (5 : Int))) = true ∧
 ((!decide (n = (4 : Int))) = false ∧
 (((!!decide (v = (0 : Int))) = true →
 (!!decide (v = (0 : Int))) = true ∧
 ((!!decide (v = (0 : Int))) = true ∧
 ((!!decide (v = (0 : Int))) = true ∧
 (((decide (k = (6 : Int))) = true →
 (decide (k = (6 : Int))) = true ∧
 ((decide (k = (6 : Int))) = true ∧
 ((!!decide (v = (0 : Int))) = true ∧
 ((decide (k = (6 : Int))) = true ∧
 ((!decide (v = (0 : Int))) = false ∧
 (((!decide (a = (0 : Int))) = true →
 K (AV.int IntKind.i64 (2 : Int))) ∧
 ((!decide (a = (0 : Int))) = false →
 K (AV.int IntKind.i64 (0 : Int))))))))) ∧
 ((decide (k = (6 : Int))) = false →
 (decide (k = (6 : Int))) = false ∧
 ((decide (k = (6 : Int))) = false ∧
 ((!!decide (v = (0 : Int))) = true ∧
 ((decide (k = (6 : Int))) = false ∧
 ((!decide (v = (0 : Int))) = false ∧
 (K (AV.int IntKind.i64 (0 : Int)))))))))))) ∧
 ((!!decide (v = (0 : Int))) = false →
 (!!decide (v = (0 : Int))) = false ∧
 ((!!decide (v = (0 : Int))) = false ∧
 ((!!decide (v = (0 : Int))) = false ∧
 ((!!decide (v = (0 : Int))) = false ∧
 ((!decide (v = (0 : Int))) = true ∧
 (K (AV.int IntKind.i64 (2 : Int)))))))))))))) ∧
 ((!decide (k = (5 : Int))) = false →
 (!decide (k = (5 : Int))) = false ∧
 ((!decide (k = (5 : Int))) = false ∧
 ((!!decide (n = (4 : Int))) = true ∧
 ((!decide (k = (5 : Int))) = false ∧
 ((!decide (n = (4 : Int))) = false ∧
 (((decide (k = (6 : Int))) = true →
 (decide (k = (6 : Int))) = true ∧
 ((decide (k = (6 : Int))) = true ∧
 ((decide (k = (6 : Int))) = true ∧
 (((!decide (a = (0 : Int))) = true →
 K (AV.int IntKind.i64 (2 : Int))) ∧
 ((!decide (a = (0 : Int))) = false →
 K (AV.int IntKind.i64 (0 : Int))))))) ∧
 ((decide (k = (6 : Int))) = false →
 (decide (k = (6 : Int))) = false ∧
 ((decide (k = (6 : Int))) = false ∧
 ((decide (k = (6 : Int))) = false ∧
 (K (AV.int IntKind.i64 (0 : Int))))))))))))))) ∧
 ((!!decide (n = (4 : Int))) = false →
 (!!decide (n = (4 : Int))) = false ∧
 ((!!decide (n = (4 : Int))) = false ∧
 ((!!decide (n = (4 : Int))) = false ∧
 ((!decide (n = (4 : Int))) = true ∧
 (K (AV.int IntKind.i64 (2 : Int))))))))))) ∧
 ((!decide (k = (3 : Int))) = false →
 (!decide (k = (3 : Int))) = false ∧
 ((!decide (k = (3 : Int))) = false ∧
 ((decide (k = (3 : Int))) = true ∧
 (((!!decide (n = (4 : Int))) = true →
 (!!decide (n = (4 : Int))) = true ∧
 ((!!decide (n = (4 : Int))) = true ∧
 ((!!decide (n = (4 : Int))) = true ∧
 ((!decide (n = (4 : Int))) = false ∧
 (((decide (k = (6 : Int))) = true →
 (decide (k = (6 : Int))) = true ∧
 ((decide (k = (6 : Int))) = true ∧
 ((decide (k = (6 : Int))) = true ∧
 (((!decide (a = (0 : Int))) = true →
 K (AV.int IntKind.i64 (2 : Int))) ∧
 ((!decide (a = (0 : Int))) = false →
 K (AV.int IntKind.i64 (0 : Int))))))) ∧
 ((decide (k = (6 : Int))) = false →
 (decide (k = (6 : Int))) = false ∧
 ((decide (k = (6 : Int))) = false ∧
 ((decide (k = (6 : Int))) = false ∧
 (K (AV.int IntKind.i64 (0 : Int))))))))))) ∧
 ((!!decide (n = (4 : Int))) = false →
 (!!decide (n = (4 : Int))) = false ∧
 ((!!decide (n = (4 : Int))) = false ∧
 ((!!decide (n = (4 : Int))) = false ∧
 ((!decide (n = (4 : Int))) = true ∧
 (K (AV.int IntKind.i64 (2 : Int))))))))))))) ∧
 ((decide (k = (4 : Int))) = false →
 ((decide (k = (5 : Int))) = true →
 ((!decide (k = (3 : Int))) = true →
 (!decide (k = (3 : Int))) = true ∧
 ((!decide (k = (3 : Int))) = true ∧
 ((decide (k = (3 : Int))) = false ∧
 (((!!decide (n = (4 : Int))) = true →
 (!!decide (n = (4 : Int))) = true ∧
 ((!!decide (n = (4 : Int))) = true ∧
 ((!decide (k = (5 : Int))) = false ∧
 ((!decide (k = (5 : Int))) = false ∧
 ((!decide (k = (5 : Int))) = false ∧
 ((!!decide (n = (4 : Int))) = true ∧
 ((!decide (k = (5 : Int))) = false ∧
 ((!decide (n = (4 : Int))) = false ∧
 (((decide (k = (6 : Int))) = true →
 (decide (k = (6 : Int))) = true ∧
 ((decide (k = (6 : Int))) = true ∧
 ((decide (k = (6 : Int))) = true ∧
 (((!decide (a = (0 : Int))) = true →
 K (AV.int IntKind.i64 (2 : Int))) ∧
 ((!decide (a = (0 : Int))) = false →
 K (AV.int IntKind.i64 (0 : Int))))))) ∧
 ((decide (k = (6 : Int))) = false →
 (decide (k = (6 : Int))) = false ∧
 ((decide (k = (6 : Int))) = false ∧
 ((decide (k = (6 : Int))) = false ∧
 (K (AV.int IntKind.i64 (0 : Int))))))))))))))) ∧
 ((!!decide (n = (4 : Int))) = false →
 (!!decide (n = (4 : Int))) = false ∧
 ((!!decide (n = (4 : Int))) = false ∧
 ((!!decide (n = (4 : Int))) = false ∧
 ((!decide (n = (4 : Int))) = true ∧
 (K (AV.int IntKind.i64 (2 : Int))))))))))) ∧
 ((!decide (k = (3 : Int))) = false →
 (!decide (k = (3 : Int))) = false ∧
 ((!decide (k = (3 : Int))) = false ∧
 ((decide (k = (3 : Int))) = true ∧
 (((!!decide (n = (4 : Int))) = true →
 (!!decide (n = (4 : Int))) = true ∧
 ((!!decide (n = (4 : Int))) = true ∧
 ((!!decide (n = (4 : Int))) = true ∧
 ((!decide (n = (4 : Int))) = false ∧
 (((decide (k = (6 : Int))) = true →
 (decide (k = (6 : Int))) = true ∧
 ((decide (k = (6 : Int))) = true ∧
 ((decide (k = (6 : Int))) = true ∧
 (((!decide (a = (0 : Int))) = true →
 K (AV.int IntKind.i64 (2 : Int))) ∧
 ((!decide (a = (0 : Int))) = false →
 K (AV.int IntKind.i64 (0 : Int))))))) ∧
 ((decide (k = (6 : Int))) = false →
 (decide (k = (6 : Int))) = false ∧
 ((decide (k = (6 : Int))) = false ∧
 ((decide (k = (6 : Int))) = false ∧
 (K (AV.int IntKind.i64 (0 : Int))))))))))) ∧
 ((!!decide (n = (4 : Int))) = false →
 (!!decide (n = (4 : Int))) = false ∧
 ((!!decide (n = (4 : Int))) = false ∧
 ((!!decide (n = (4 : Int))) = false ∧
 ((!decide (n = (4 : Int))) = true ∧
 (K (AV.int IntKind.i64 (2 : Int)))))))))))) ∧
 ((decide (k = (5 : Int))) = false →
 ((decide (k = (2 : Int))) = true →
 (decide (k = (2 : Int))) = true ∧
 (((!decide (k = (3 : Int))) = true →
 (!decide (k = (3 : Int))) = true ∧
 ((!decide (k = (3 : Int))) = true ∧
 ((decide (k = (3 : Int))) = false ∧
 (((!!decide (n = (3 : Int))) = true →
 (!!decide (n = (3 : Int))) = true ∧
 ((!!decide (n = (3 : Int))) = true ∧
 ((!decide (k = (5 : Int))) = true ∧
 ((!decide (k = (5 : Int))) = true ∧
 ((!decide (k = (5 : Int))) = true ∧
 ((!!decide (n = (3 : Int))) = true ∧
 ((!decide (k = (5 : Int))) = true ∧
 ((!decide (n = (3 : Int))) = false ∧
 (((!!decide (v = (0 : Int))) = true →
 (!!decide (v = (0 : Int))) = true ∧
 ((!!decide (v = (0 : Int))) = true ∧
 ((!!decide (v = (0 : Int))) = true ∧
 (((decide (k = (6 : Int))) = true →
 (decide (k = (6 : Int))) = true ∧
 ((decide (k = (6 : Int))) = true ∧
 ((!!decide (v = (0 : Int))) = true ∧
 ((decide (k = (6 : Int))) = true ∧
 ((!decide (v = (0 : Int))) = false ∧
 (((!decide (a = (0 : Int))) = true →
 K (AV.int IntKind.i64 (2 : Int))) ∧
 ((!decide (a = (0 : Int))) = false →
 K (AV.int IntKind.i64 (0 : Int))))))))) ∧
 ((decide (k = (6 : Int))) = false →
 (decide (k = (6 : Int))) = false ∧
 ((decide (k = (6 : Int))) = false ∧
 ((!!decide (v = (0 : Int))) = true ∧
 ((decide (k = (6 : Int))) = false ∧
 ((!decide (v = (0 : Int))) = false ∧
 (K (AV.int IntKind.i64 (0 : Int)))))))))))) ∧
 ((!!decide (v = (0 : Int))) = false →
 (!!decide (v = (0 : Int))) = false ∧
 ((!!decide (v = (0 : Int))) = false ∧
 ((!!decide (v = (0 : Int))) = false ∧
 ((!!decide (v = (0 : Int))) = false ∧
 ((!decide (v = (0 : Int))) = true ∧
 (K (AV.int IntKind.i64 (2 : Int))))))))))))))))) ∧
 ((!!decide (n = (3 : Int))) = false →
 (!!decide (n = (3 : Int))) = false ∧
 ((!!decide (n = (3 : Int))) = false ∧
 ((!!decide (n = (3 : Int))) = false ∧
 ((!decide (n = (3 : Int))) = true ∧
 (K (AV.int IntKind.i64 (2 : Int))))))))))) ∧
 ((!decide (k = (3 : Int))) = false →
 (!decide (k = (3 : Int))) = false ∧
 ((!decide (k = (3 : Int))) = false ∧
 ((decide (k = (3 : Int))) = true ∧
 (((!!decide (n = (3 : Int))) = true →
 (!!decide (n = (3 : Int))) = true ∧
 ((!!decide (n = (3 : Int))) = true ∧
 ((!!decide (n = (3 : Int))) = true ∧
 ((!decide (n = (3 : Int))) = false ∧
 (((decide (k = (6 : Int))) = true →
 (decide (k = (6 : Int))) = true ∧
 ((decide (k = (6 : Int))) = true ∧
 ((decide (k = (6 : Int))) = true ∧
 (((!decide (a = (0 : Int))) = true →
 K (AV.int IntKind.i64 (2 : Int))) ∧
 ((!decide (a = (0 : Int))) = false →
 K (AV.int IntKind.i64 (0 : Int))))))) ∧
 ((decide (k = (6 : Int))) = false →
 (decide (k = (6 : Int))) = false ∧
 ((decide (k = (6 : Int))) = false ∧
 ((decide (k = (6 : Int))) = false ∧
 (K (AV.int IntKind.i64 (0 : Int))))))))))) ∧
 ((!!decide (n = (3 : Int))) = false →
 (!!decide (n = (3 : Int))) = false ∧
 ((!!decide (n = (3 : Int))) = false ∧
 ((!!decide (n = (3 : Int))) = false ∧
 ((!decide (n = (3 : Int))) = true ∧
 (K (AV.int IntKind.i64 (2 : Int))))))))))))) ∧
 ((decide (k = (2 : Int))) = false →
 ((decide (k = (3 : Int))) = true →
 (!decide (k = (3 : Int))) = false ∧
 ((!decide (k = (3 : Int))) = false ∧
 ((!decide (k = (3 : Int))) = false ∧
 ((decide (k = (3 : Int))) = true ∧
 (((!!decide (n = (3 : Int))) = true →
 (!!decide (n = (3 : Int))) = true ∧
 ((!!decide (n = (3 : Int))) = true ∧
 ((!!decide (n = (3 : Int))) = true ∧
 ((!decide (n = (3 : Int))) = false ∧
 (((decide (k = (6 : Int))) = true →
 (decide (k = (6 : Int))) = true ∧
 ((decide (k = (6 : Int))) = true ∧
 ((decide (k = (6 : Int))) = true ∧
 (((!decide (a = (0 : Int))) = true →
 K (AV.int IntKind.i64 (2 : Int))) ∧
 ((!decide (a = (0 : Int))) = false →
 K (AV.int IntKind.i64 (0 : Int))))))) ∧
 ((decide (k = (6 : Int))) = false →
 (decide (k = (6 : Int))) = false ∧
 ((decide (k = (6 : Int))) = false ∧
 ((decide (k = (6 : Int))) = false ∧
 (K (AV.int IntKind.i64 (0 : Int))))))))))) ∧
 ((!!decide (n = (3 : Int))) = false →
 (!!decide (n = (3 : Int))) = false ∧
 ((!!decide (n = (3 : Int))) = false ∧
 ((!!decide (n = (3 : Int))) = false ∧
 ((!decide (n = (3 : Int))) = true ∧
 (K (AV.int IntKind.i64 (2 : Int)))))))))))) ∧
 ((decide (k = (3 : Int))) = false →
 ((decide (k = (7 : Int))) = true →
 (!decide (k = (3 : Int))) = true ∧
 ((!decide (k = (3 : Int))) = true ∧
 ((!decide (k = (3 : Int))) = true ∧
 ((decide (k = (3 : Int))) = false ∧
 (((!!decide (n = (7 : Int))) = true →
 (!!decide (n = (7 : Int))) = true ∧
 ((!!decide (n = (7 : Int))) = true ∧
 ((!decide (k = (5 : Int))) = true ∧
 ((!decide (k = (5 : Int))) = true ∧
 ((!decide (k = (5 : Int))) = true ∧
 ((!!decide (n = (7 : Int))) = true ∧
 ((!decide (k = (5 : Int))) = true ∧
 ((!decide (n = (7 : Int))) = false ∧
 (((!!decide (v = (0 : Int))) = true →
 (!!decide (v = (0 : Int))) = true ∧
 ((!!decide (v = (0 : Int))) = true ∧
 ((!!decide (v = (0 : Int))) = true ∧
 (((decide (k = (6 : Int))) = true →
 (decide (k = (6 : Int))) = true ∧
 ((decide (k = (6 : Int))) = true ∧
 ((!!decide (v = (0 : Int))) = true ∧
 ((decide (k = (6 : Int))) = true ∧
 ((!decide (v = (0 : Int))) = false ∧
 (((!decide (a = (0 : Int))) = true →
 K (AV.int IntKind.i64 (2 : Int))) ∧
 ((!decide (a = (0 : Int))) = false →
 K (AV.int IntKind.i64 (0 : Int))))))))) ∧
 ((decide (k = (6 : Int))) = false →
 (decide (k = (6 : Int))) = false ∧
 ((decide (k = (6 : Int))) = false ∧
 ((!!decide (v = (0 : Int))) = true ∧
 ((decide (k = (6 : Int))) = false ∧
 ((!decide (v = (0 : Int))) = false ∧
 (K (AV.int IntKind.i64 (0 : Int)))))))))))) ∧
 ((!!decide (v = (0 : Int))) = false →
 (!!decide (v = (0 : Int))) = false ∧
 ((!!decide (v = (0 : Int))) = false ∧
 ((!!decide (v = (0 : Int))) = false ∧
 ((!!decide (v = (0 : Int))) = false ∧
 ((!decide (v = (0 : Int))) = true ∧
 (K (AV.int IntKind.i64 (2 : Int))))))))))))))))) ∧
 ((!!decide (n = (7 : Int))) = false →
 (!!decide (n = (7 : Int))) = false ∧
 ((!!decide (n = (7 : Int))) = false ∧
 ((!!decide (n = (7 : Int))) = false ∧
 ((!decide (n = (7 : Int))) = true ∧
 (K (AV.int IntKind.i64 (2 : Int)))))))))))) ∧
 ((decide (k = (7 : Int))) = false →
 ((decide (k = (6 : Int))) = true →
 ((decide (n ≥ (1 : Int))) = true →
 (decide (n ≥ (1 : Int))) = true ∧
 ((decide (n ≥ (1 : Int))) = true ∧
 ((decide (n ≥ (1 : Int))) = true ∧
 (((decide (n ≤ (7 : Int))) = true →
 (!decide (k = (3 : Int))) = true ∧
 ((!decide (k = (3 : Int))) = true ∧
 ((!decide (k = (3 : Int))) = true ∧
 ((decide (k = (3 : Int))) = false ∧
 (((!decide (n = (0 : Int))) = true →
 (!decide (n = (0 : Int))) = true ∧
 ((!decide (n = (0 : Int))) = true ∧
 ((!decide (n = (0 : Int))) = true ∧
 ((decide (n = (0 : Int))) = false ∧
 (((!!decide (n = n)) = true →
 (!!decide (n = n)) = true ∧
 ((!!decide (n = n)) = true ∧
 ((!decide (k = (5 : Int))) = true ∧
 ((!decide (k = (5 : Int))) = true ∧
 ((!decide (k = (5 : Int))) = true ∧
 ((!!decide (n = n)) = true ∧
 ((!decide (k = (5 : Int))) = true ∧
 ((!decide (n = n)) = false ∧
 (((!!decide (v = (0 : Int))) = true →
 (!!decide (v = (0 : Int))) = true ∧
 ((!!decide (v = (0 : Int))) = true ∧
 ((!!decide (v = (0 : Int))) = true ∧
 ((decide (k = (6 : Int))) = true ∧
 ((decide (k = (6 : Int))) = true ∧
 ((decide (k = (6 : Int))) = true ∧
 ((!!decide (v = (0 : Int))) = true ∧
 ((decide (k = (6 : Int))) = true ∧
 ((!decide (v = (0 : Int))) = false ∧
 (((!decide (a = (0 : Int))) = true →
 K (AV.int IntKind.i64 (2 : Int))) ∧
 ((!decide (a = (0 : Int))) = false →
 K (AV.int IntKind.i64 (0 : Int))))))))))))) ∧
 ((!!decide (v = (0 : Int))) = false →
 (!!decide (v = (0 : Int))) = false ∧
 ((!!decide (v = (0 : Int))) = false ∧
 ((!!decide (v = (0 : Int))) = false ∧
 ((!!decide (v = (0 : Int))) = false ∧
 ((!decide (v = (0 : Int))) = true ∧
 (K (AV.int IntKind.i64 (2 : Int))))))))))))))))) ∧
 ((!!decide (n = n)) = false →
 (!!decide (n = n)) = false ∧
 ((!!decide (n = n)) = false ∧
 ((!!decide (n = n)) = false ∧
 ((!decide (n = n)) = true ∧
 (K (AV.int IntKind.i64 (2 : Int)))))))))))) ∧
 ((!decide (n = (0 : Int))) = false →
 (!decide (n = (0 : Int))) = false ∧
 ((!decide (n = (0 : Int))) = false ∧
 ((!decide (n = (0 : Int))) = false ∧
 ((decide (n = (0 : Int))) = true ∧
 (K (AV.int IntKind.i64 (2 : Int)))))))))))) ∧
 ((decide (n ≤ (7 : Int))) = false →
 (!decide (k = (3 : Int))) = true ∧
 ((!decide (k = (3 : Int))) = true ∧
 ((!decide (k = (3 : Int))) = true ∧
 ((decide (k = (3 : Int))) = false ∧
 (K (AV.int IntKind.i64 (2 : Int))))))))))) ∧
 ((decide (n ≥ (1 : Int))) = false →
 (decide (n ≥ (1 : Int))) = false ∧
 ((decide (n ≥ (1 : Int))) = false ∧
 ((decide (n ≥ (1 : Int))) = false ∧
 ((!decide (k = (3 : Int))) = true ∧
 ((!decide (k = (3 : Int))) = true ∧
 ((!decide (k = (3 : Int))) = true ∧
 ((decide (k = (3 : Int))) = false ∧
 (K (AV.int IntKind.i64 (2 : Int))))))))))) ∧
 ((decide (k = (6 : Int))) = false →
 (!decide (k = (3 : Int))) = true ∧
 ((!decide (k = (3 : Int))) = true ∧
 ((!decide (k = (3 : Int))) = true ∧
 ((decide (k = (3 : Int))) = false ∧
 (K (AV.int IntKind.i64 (2 : Int)))))))))))))
def stepR_scr : Plan := .b (.t (.b (.t (.t (.f (.k (.k (.k (.k (.k (.b (.t (.t (.b (.t (.t (.t (.t (.f (.b (.t (.t (.t (.b (.t (.t (.t (.t (.f (.b (.z) (.z))))))) (.f (.f (.t (.f (.f (.z)))))))))) (.f (.f (.f (.k (.k (.k (.f (.t (.z))))))))))))))) (.f (.f (.t (.f (.f (.k (.k (.k (.k (.b (.t (.t (.k (.t (.k (.b (.z) (.z))))))) (.f (.f (.k (.f (.z)))))))))))))))))) (.f (.f (.k (.k (.k (.f (.t (.z))))))))))))))))) (.f (.f (.t (.k (.k (.k (.k (.k (.b (.t (.t (.k (.k (.k (.t (.k (.f (.k (.k (.k (.k (.b (.t (.t (.k (.t (.k (.b (.z) (.z))))))) (.f (.f (.k (.f (.z)))))))))))))))))) (.f (.f (.k (.k (.k (.f (.t (.z))))))))))))))))))) (.b (.t (.b (.t (.t (.f (.k (.k (.k (.k (.k (.b (.t (.t (.b (.t (.t (.t (.t (.f (.b (.t (.t (.t (.b (.t (.t (.t (.t (.f (.b (.z) (.z))))))) (.f (.f (.t (.f (.f (.z)))))))))) (.f (.f (.f (.k (.k (.k (.f (.t (.z))))))))))))))) (.f (.f (.t (.f (.f (.k (.k (.k (.k (.b (.t (.t (.k (.t (.k (.b (.z) (.z))))))) (.f (.f (.k (.f (.z)))))))))))))))))) (.f (.f (.k (.k (.k (.f (.t (.z))))))))))))))))) (.f (.f (.t (.k (.k (.k (.k (.k (.b (.t (.t (.k (.k (.k (.t (.k (.f (.k (.k (.k (.k (.b (.t (.t (.k (.t (.k (.b (.z) (.z))))))) (.f (.f (.k (.f (.z)))))))))))))))))) (.f (.f (.k (.k (.k (.f (.t (.z))))))))))))))))))) (.b (.b (.t (.t (.f (.k (.k (.k (.k (.k (.b (.t (.t (.f (.f (.f (.t (.f (.f (.k (.k (.k (.k (.b (.t (.t (.k (.t (.k (.b (.z) (.z))))))) (.f (.f (.k (.f (.z)))))))))))))))))) (.f (.f (.k (.k (.k (.f (.t (.z))))))))))))))))) (.f (.f (.t (.k (.k (.k (.k (.k (.b (.t (.t (.k (.k (.k (.t (.k (.f (.k (.k (.k (.k (.b (.t (.t (.k (.t (.k (.b (.z) (.z))))))) (.f (.f (.k (.f (.z)))))))))))))))))) (.f (.f (.k (.k (.k (.f (.t (.z)))))))))))))))))) (.b (.t (.b (.t (.t (.f (.k (.k (.k (.k (.k (.b (.t (.t (.t (.t (.t (.t (.t (.f (.b (.t (.t (.t (.b (.t (.t (.t (.t (.f (.b (.z) (.z))))))) (.f (.f (.t (.f (.f (.z)))))))))) (.f (.f (.f (.k (.k (.k (.f (.t (.z)))))))))))))))))) (.f (.f (.k (.k (.k (.f (.t (.z))))))))))))))))) (.f (.f (.t (.k (.k (.k (.k (.k (.b (.t (.t (.k (.k (.k (.t (.k (.f (.k (.k (.k (.k (.b (.t (.t (.k (.t (.k (.b (.z) (.z))))))) (.f (.f (.k (.f (.z)))))))))))))))))) (.f (.f (.k (.k (.k (.f (.t (.z))))))))))))))))))) (.b (.f (.f (.f (.t (.k (.k (.k (.k (.k (.b (.t (.t (.k (.k (.k (.t (.k (.f (.k (.k (.k (.k (.b (.t (.t (.k (.t (.k (.b (.z) (.z))))))) (.f (.f (.k (.f (.z)))))))))))))))))) (.f (.f (.k (.k (.k (.f (.t (.z)))))))))))))))))) (.b (.t (.t (.t (.f (.k (.k (.k (.k (.k (.b (.t (.t (.t (.t (.t (.t (.t (.f (.b (.t (.t (.t (.b (.t (.t (.t (.t (.f (.b (.z) (.z))))))) (.f (.f (.t (.f (.f (.z)))))))))) (.f (.f (.f (.k (.k (.k (.f (.t (.z)))))))))))))))))) (.f (.f (.k (.k (.k (.f (.t (.z)))))))))))))))))) (.b (.b (.t (.t (.t (.b (.t (.t (.t (.f (.b (.t (.t (.t (.f (.b (.t (.t (.t (.t (.t (.t (.t (.f (.b (.t (.t (.t (.t (.t (.t (.t (.t (.f (.b (.z) (.z))))))))))) (.f (.f (.f (.k (.k (.k (.f (.t (.z)))))))))))))))))) (.f (.f (.k (.k (.k (.f (.t (.z))))))))))))) (.f (.f (.f (.t (.z)))))))))) (.t (.t (.t (.f (.z))))))))) (.f (.f (.f (.k (.t (.t (.t (.f (.z)))))))))) (.t (.t (.t (.f (.z)))))))))))
theorem stepR_vc (k a v n : Int) (K : AV → Prop) : (funP XCo 38 [.agg [.int .i64 k, .int .u16 a, .int .u8 v, .int .i64 n]] h0 stepR_scr (fun v _ _ => K v)) = stepR_VC k a v n K := by kernel_rfl
end Go.Proofs.Ytnfelncgeihihaa.V
