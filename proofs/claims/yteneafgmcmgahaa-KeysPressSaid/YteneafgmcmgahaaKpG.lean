/- keys: lists of touches (part 6): contracts of the loops that press; states of Touches. -/
import Derived.Test.YteneafgmcmgahaaKpF
namespace Go.Proofs.Yteneafgmcmgahaa.V
open Go Go.Proofs
set_option maxRecDepth 100000
set_option maxHeartbeats 4000000
set_option linter.unusedSimpArgs false
set_option linter.unusedVariables false
def prOk (ks : List Int) : Prop := 0 < ks.length ∧ ks.length ≤ 60
def l1 (fr : Int) (ks : List Int) : List Tc := row fr true ks
def l2 (fr to : Int) (ks : List Int) : List Tc := row fr true ks ++ row to false ks
def hK (ks : List Int) : AH := ⟨1, [(0, .ro (encI .i64 ks))]⟩
def LA (fr to : Int) (ks : List Int) : LTr := fun n0 frm σ s K => need (n0 = 1) ∧ (match lookF frm.l 10 with
  | some (.bool true) => need (Fits 1 [(0, 0), (1, 1), (2, 2)] frm σ (aFr fr to fr 0 0 ks.length true .nilslice) (aHp (encI .i64 ks) .dead)) ∧ need (prOk ks) ∧ K (.exit 2) (aFr fr to fr 0 (ks.length : Int) ks.length true (.slice 2 0 ks.length none)) (aHp (encI .i64 ks) (.opn 39 4 (tcs (l1 fr ks)))) s
  | some (.bool false) => need (Fits 1 [(0, 0), (1, 1), (2, 2)] frm σ (aFr fr to to 1 0 ks.length false (.slice 2 0 ks.length none)) (aHp (encI .i64 ks) (.opn 39 4 (tcs (l1 fr ks))))) ∧ need (prOk ks) ∧ K (.exit 2) (aFr fr to to 1 (ks.length : Int) ks.length false (.slice 2 0 (ks.length + ks.length) none)) (aHp (encI .i64 ks) (.opn 39 4 (tcs (l2 fr to ks)))) s
  | _ => False)
def LB (c : Option Nat) (fr to : Int) (ks : List Int) : LTr := fun n0 frm σ s K => need (n0 = 1) ∧ need (Fits 1 [(0, 0), (1, 1)] frm σ (bFr c fr to 0 ks.length .nilslice) (bHp (encI .i64 ks) .dead)) ∧ need (prOk ks) ∧ K (.exit 0) (bFr c fr to (ks.length : Int) ks.length (.slice 1 0 ks.length none)) (bHp (encI .i64 ks) (.opn 39 4 (tcs (l1 fr ks)))) s
def LD (c : Option Nat) (fr to : Int) (ks : List Int) : LTr := fun n0 frm σ s K => need (n0 = 1) ∧ need (Fits 1 [(0, 0), (1, 1)] frm σ (dFr c fr to 0 ks.length (.slice 1 0 ks.length none)) (bHp (encI .i64 ks) (.opn 39 4 (tcs (l1 fr ks))))) ∧ need (prOk ks) ∧ K (.exit 2) (dFr c fr to (ks.length : Int) ks.length (.slice 1 0 (ks.length + ks.length) none)) (bHp (encI .i64 ks) (.opn 39 4 (tcs (l2 fr to ks)))) s
def trsP (fr to : Int) (ks : List Int) : List (Nat × Tr1) := (16, chkT (l2 fr to ks)) :: (17, chkT (l2 fr to ks)) :: purK1.map fun p => (p.1, pureT p.2)
theorem trsP_ok (fr to : Int) (ks : List Int) : TrsOk Try.prog (lookT (trsP fr to ks)) := TrsOk.cons (ckT_tr _) <| TrsOk.cons (rkT_tr _) <| TrsOk.cons tch_tr <| TrsOk.cons mayT_tr TrsOk.nil
noncomputable def XPa (fr to : Int) (ks : List Int) : Cx := ⟨Try.prog, lookT (trsP fr to ks), purO purK1, purK1.map (·.1), 20, lookL [(2, LA fr to ks)]⟩
noncomputable def XPb (c : Option Nat) (fr to : Int) (ks : List Int) : Cx := ⟨Try.prog, lookT (trsP fr to ks), purO purK1, purK1.map (·.1), 20, lookL [(0, LB c fr to ks), (2, LD c fr to ks)]⟩
theorem XPa_ok (fr to : Int) (ks : List Int) : CxOk (XPa fr to ks) := ⟨trsP_ok fr to ks, purO_ok purK1_ok, mixedky⟩
theorem XPb_ok (c : Option Nat) (fr to : Int) (ks : List Int) : CxOk (XPb c fr to ks) := ⟨trsP_ok fr to ks, purO_ok purK1_ok, mixedky⟩
theorem accL_zero (l0 : List Tc) (t : Int) (on : Bool) (ks : List Int) : accL l0 t on ks 0 = l0 := by unfold accL; simp [row]
theorem accL_all (l0 : List Tc) (t : Int) (on : Bool) (ks : List Int) : accL l0 t on ks ks.length = l0 ++ row t on ks := by unfold accL; rw [List.take_length]
theorem l1_len (fr : Int) (ks : List Int) : (l1 fr ks).length = ks.length := row_len _ _ _
theorem l2_len (fr to : Int) (ks : List Int) : (l2 fr to ks).length = ks.length + ks.length := by unfold l2; rw [List.length_append, row_len, row_len]
theorem LA_ok (fr to : Int) (ks : List Int) : LOk Try.prog (loopAt Try.prog 6 1) (LA fr to ks) := by
  rintro n0 frm σ s Q ⟨h0, h⟩
  cases (h0 : n0 = 1)
  intro E a w hE hs
  split at h
  · obtain ⟨hf, ⟨hp1, hp2⟩, hq⟩ := h
    have key := a_wl (fr := fr) (to := to) (t := fr) (q := 0) (on := true) (ks := ks) (l0 := []) (by omega) (by simp)
    rw [accL_zero, accL_all] at key
    have e1 : ([] ++ row fr true ks : List Tc) = l1 fr ks := rfl
    rw [e1, l1_len, acV_pos hp1, acO_pos hp1] at key
    refine (WL.less key ?_) E a w hE (Fits.refines hf E hE a w hs)
    rintro e fr' σ' ⟨rfl, rfl, rfl⟩
    exact ⟨_, _, fun E _ a w h => h, s, hq⟩
  · obtain ⟨hf, ⟨hp1, hp2⟩, hq⟩ := h
    have key := a_wl (fr := fr) (to := to) (t := to) (q := 1) (on := false) (ks := ks) (l0 := l1 fr ks) (by omega) (by rw [l1_len]; omega)
    rw [accL_zero, accL_all] at key
    have e1 : l1 fr ks ++ row to false ks = l2 fr to ks := rfl
    rw [e1, l1_len, l2_len, acV_pos hp1, acO_pos hp1, acV_pos (show 0 < ks.length + ks.length by omega), acO_pos (show 0 < ks.length + ks.length by omega)] at key
    refine (WL.less key ?_) E a w hE (Fits.refines hf E hE a w hs)
    rintro e fr' σ' ⟨rfl, rfl, rfl⟩
    exact ⟨_, _, fun E _ a w h => h, s, hq⟩
  · exact h.elim
theorem LB_ok (c : Option Nat) (fr to : Int) (ks : List Int) : LOk Try.prog (loopAt Try.prog 7 0) (LB c fr to ks) := by
  rintro n0 frm σ s Q ⟨h0, hf, ⟨hp1, hp2⟩, hq⟩
  cases (h0 : n0 = 1)
  intro E a w hE hs
  have key := b_wl (c := c) (fr := fr) (to := to) (ks := ks) (l0 := []) (by omega) (by simp)
  rw [accL_zero, accL_all] at key
  have e1 : ([] ++ row fr true ks : List Tc) = l1 fr ks := rfl
  rw [e1, l1_len, acV_pos hp1, acO_pos hp1] at key
  refine (WL.less key ?_) E a w hE (Fits.refines hf E hE a w hs)
  rintro e fr' σ' ⟨rfl, rfl, rfl⟩
  exact ⟨_, _, fun E _ a w h => h, s, hq⟩
theorem LD_ok (c : Option Nat) (fr to : Int) (ks : List Int) : LOk Try.prog (loopAt Try.prog 7 1) (LD c fr to ks) := by
  rintro n0 frm σ s Q ⟨h0, hf, ⟨hp1, hp2⟩, hq⟩
  cases (h0 : n0 = 1)
  intro E a w hE hs
  have key := d_wl (c := c) (fr := fr) (to := to) (ks := ks) (l0 := l1 fr ks) (by omega) (by rw [l1_len]; omega) (by rw [l1_len]; omega)
  rw [accL_zero, accL_all] at key
  have e1 : l1 fr ks ++ row to false ks = l2 fr to ks := rfl
  rw [e1, l1_len, l2_len, acV_pos hp1, acO_pos hp1, acV_pos (show 0 < ks.length + ks.length by omega), acO_pos (show 0 < ks.length + ks.length by omega)] at key
  refine (WL.less key ?_) E a w hE (Fits.refines hf E hE a w hs)
  rintro e fr' σ' ⟨rfl, rfl, rfl⟩
  exact ⟨_, _, fun E _ a w h => h, s, hq⟩
/-- Two lists compared. -/
def tFr (n : Nat) (i : Int) : AF := ⟨26, [(0, .slice 0 0 n none), (1, .slice 1 0 n none), (5, .int .i64 i)]⟩
def tHp (cs : List AV) : AH := ⟨2, [(1, .ro cs), (0, .ro cs)]⟩
end Go.Proofs.Yteneafgmcmgahaa.V
