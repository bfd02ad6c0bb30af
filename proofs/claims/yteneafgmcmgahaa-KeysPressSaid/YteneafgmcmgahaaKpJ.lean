/- keys: lists of touches (part 8): Press and Touches as facts, in any memory; the law's contexts. -/
import Derived.Test.YteneafgmcmgahaaKpI
namespace Go.Proofs.Yteneafgmcmgahaa.V
open Go Go.Proofs
set_option maxRecDepth 100000
set_option maxHeartbeats 4000000
set_option linter.unusedSimpArgs false
set_option linter.unusedVariables false
theorem ts_loops : loopsOf (bodyOf Try.prog 8) 0 = [(0, loopAt Try.prog 8 0)] := by kernel_rfl
theorem ts_sc {l : List Tc} (hl : l.length ≤ 1000) : SC Try.prog 8 [.slice 0 0 l.length none, .slice 1 0 l.length none] (tHp (tcs l)) (fun x _ => x = .bool true) := by
  show SC (XTt l).P 8 _ (tHp (tcs l)) (fun x _ => x = .bool true)
  refine sc_of_vcH (X := XTt l) (XTt_ok l) (f := 8) (by kernel_rfl) ?_ (K := fun x _ => x = .bool true) (ts_vc l (fun x _ => x = .bool true)) ?_
  · intro p hx L hL
    rw [show (XTt l).P = Try.prog from rfl, ts_loops] at hx
    simp only [List.mem_cons, List.not_mem_nil, or_false] at hx
    subst hx
    have : L = LTt l := (Option.some.inj hL).symm
    subst this
    exact LTt_ok l
  · have hp := pfs_tcs l
    unfold ts_VC
    refine ⟨fun h => ?_, fun _ => ⟨rfl, ⟨rfl, ⟨.inr ⟨hp, rfl⟩, .inr ⟨hp, rfl⟩, trivial⟩, rfl, ⟨rfl, rfl, rfl, trivial⟩⟩, hl, rfl⟩⟩
    simp at h
theorem ts0_sc : SC Try.prog 8 [.nilslice, .nilslice] h0 (fun x _ => x = .bool true) := by
  show SC (cxP Try.prog purK1 []).P 8 _ h0 (fun x _ => x = .bool true)
  exact sc_of_vcH (X := cxP Try.prog purK1 []) XK1_ok (f := 8) (by kernel_rfl) (fun p _ L hL => by cases hL) (K := fun x _ => x = .bool true) (ts0_vc () (fun x _ => x = .bool true)) rfl
def tsT (l : List Tc) : Tr1 := fun xs σ s K => match xs with
  | [.nilslice, .nilslice] => K (.bool true) σ s
  | [.slice b 0 m none, .slice b2 0 m2 none] => (match (σ.get b).cs?, (σ.get b2).cs? with
    | some cs, some cs2 => need (cs = tcs l) ∧ need (cs2 = tcs l) ∧ need (b < σ.nx) ∧ need (b2 < σ.nx) ∧ need (b ≠ b2) ∧ need (m = l.length) ∧ need (m2 = l.length) ∧ need (l.length ≤ 1000) ∧ K (.bool true) σ s
    | _, _ => False)
  | _ => False
theorem tsT_tr (l : List Tc) : TrOk Try.prog 8 (tsT l) := by
  intro xs σ s K h
  unfold tsT at h
  split at h
  · refine (SC.any (v := .bool true) rfl rfl ts0_sc σ).mono ?_
    rintro v τ ⟨rfl, rfl⟩
    exact ⟨s, h⟩
  · rename_i b m b2 m2
    split at h
    rotate_left
    · exact h.elim
    rename_i cs cs2 hcs hcs2
    obtain ⟨q1, q2, h3, h4, h5, h6, h7, h8, hk⟩ := h
    cases (q1 : cs = tcs l)
    cases (q2 : cs2 = tcs l)
    have h1 := hcs
    have h2 := hcs2
    cases (h6 : m = l.length)
    cases (h7 : m2 = l.length)
    have h5 : b ≠ b2 := h5
    refine (SC.frameZ (σ0 := tHp (tcs l)) (args0 := [.slice 0 0 l.length none, .slice 1 0 l.length none]) (v := .bool true) (fun i => if i = 0 then some b else if i = 1 then some b2 else none) (fun x => if x = b then some 0 else if x = b2 then some 1 else none) ?_ ?_ ?_ (by simp [renL, AV.ren, h5, Ne.symm h5]) rfl (ts_sc h8)).mono ?_
    · intro i hi
      have hi : i < 2 := hi
      have : i = 0 ∨ i = 1 := by omega
      rcases this with rfl | rfl
      · exact ⟨b, _, _, rfl, h3, h1, rfl, .inr ⟨pfs_tcs l, rfl⟩⟩
      · exact ⟨b2, _, _, rfl, h4, h2, rfl, .inr ⟨pfs_tcs l, rfl⟩⟩
    · intro i
      by_cases i0 : i = 0
      · subst i0; rfl
      · by_cases i1 : i = 1
        · subst i1; rfl
        · simp [tHp, AH.get, lookH, Ne.symm i0, Ne.symm i1, AObj.wr]
    · intro x c hx
      split at hx
      · rename_i hxb
        cases hx
        exact ⟨show 0 < 2 by omega, by simp [hxb]⟩
      · split at hx
        · rename_i hxb hxb2
          cases hx
          exact ⟨show 1 < 2 by omega, by simp [hxb2]⟩
        · cases hx
    · rintro v τ ⟨rfl, rfl⟩
      exact ⟨s, hk⟩
  · exact h.elim
/-- Press's ways, in any memory. -/
def twoK (s : Plan) (A B : Plan → Prop) : Prop := match s with
  | .b x y => A x ∧ B y
  | s => A s ∧ B s
theorem twoK_ok {s : Plan} {A B : Plan → Prop} (h : twoK s A B) : (∃ s, A s) ∧ ∃ s, B s := by
  unfold twoK at h
  split at h
  · exact ⟨⟨_, h.1⟩, ⟨_, h.2⟩⟩
  · exact ⟨⟨_, h.1⟩, ⟨_, h.2⟩⟩
def prW (fr to : Int) (ks : List Int) (σ : AH) (s : Plan) (K : AV → AH → Plan → Prop) : Prop :=
  twoK s (fun s => need (chkN (l2 fr to ks) = 0) → K (.tup [.slice σ.nx 0 (ks.length + ks.length) none, .int .i64 0]) (σ.push (.opn 39 4 (tcs (l2 fr to ks)))) s) (fun s => need (chkN (l2 fr to ks) ≠ 0) → K (.tup [.nilslice, .int .i64 (chkN (l2 fr to ks))]) σ s)
def prTa (fr to : Int) (ks : List Int) : Tr1 := fun xs σ s K => match xs with
  | [.int .i64 a, .int .i64 t, .slice b 0 m none] => (match (σ.get b).cs? with
    | some cs => need (a = fr) ∧ need (t = to) ∧ need (cs = encI .i64 ks) ∧ need (b < σ.nx) ∧ need (m = ks.length) ∧ need (prOk ks) ∧ prW fr to ks σ s K
    | none => False)
  | _ => False
def prTb (fr to : Int) (ks : List Int) : Tr1 := fun xs σ s K => match xs with
  | [.int .i64 a, .int .i64 t, .slice b 0 m c] => (match (σ.get b).cs? with
    | some cs => need (a = fr) ∧ need (t = to) ∧ need (cs = encI .i64 ks) ∧ need (b < σ.nx) ∧ need (m = ks.length) ∧ need (prOk ks) ∧ prW fr to ks σ s K
    | none => False)
  | _ => False
theorem pr_frame {f k : Nat} {fr to : Int} {ks : List Int} {b : Nat} {c : Option Nat} {σ : AH} (hb : (σ.get b).cs? = some (encI .i64 ks)) (hlt : b < σ.nx) (h : SC Try.prog f [.int .i64 fr, .int .i64 to, .slice 0 0 ks.length c] (hK ks) (prQ fr to ks k)) {s : Plan} {K : AV → AH → Plan → Prop} (hk : prW fr to ks σ s K) :
    SC Try.prog f [.int .i64 fr, .int .i64 to, .slice b 0 ks.length c] σ (fun v σ' => ∃ s, K v σ' s) := by
  have he := pfs_encI (k := .i64) (zs := ks)
  have e1 : ∀ i, i < (hK ks).nx → ∃ b' c' c0, (fun i => if i = 0 then some b else none : Nat → Option Nat) i = some b' ∧ b' < σ.nx ∧ (σ.get b').cs? = some c' ∧ (hK ks).get i = .ro c0 ∧ CsRen (fun x => if x = b then some 0 else none) c' c0 := by
    intro i hi
    have hi : i < 1 := hi
    obtain rfl : i = 0 := by omega
    exact ⟨b, _, _, rfl, hlt, hb, rfl, .inr ⟨he, rfl⟩⟩
  have e2 : ∀ i, ((hK ks).get i).wr = false := by
    intro i
    by_cases i0 : i = 0
    · subst i0; rfl
    · simp [hK, AH.get, lookH, Ne.symm i0, AObj.wr]
  have e3 : ∀ x c, (fun x => if x = b then some 0 else none : Nat → Option Nat) x = some c → c < (hK ks).nx ∧ (fun i => if i = 0 then some b else none : Nat → Option Nat) c = some x := by
    intro x c hx
    simp only at hx
    split at hx
    · rename_i hxb
      cases hx
      exact ⟨show 0 < 1 by omega, by simp [hxb]⟩
    · cases hx
  have e4 : renL (fun x => if x = b then some 0 else none) [.int .i64 fr, .int .i64 to, .slice b 0 ks.length c] = some [.int .i64 fr, .int .i64 to, .slice 0 0 ks.length c] := by simp [renL, AV.ren]
  by_cases hz : chkN (l2 fr to ks) = 0
  · refine (SC.frameH (k := k) (v := .tup [.slice k 0 (ks.length + ks.length) none, .int .i64 0]) (u := .tup [.slice σ.nx 0 (ks.length + ks.length) none, .int .i64 0]) (σ0 := hK ks) _ _ e1 e2 e3 e4 (pfs_tcs (l2 fr to ks)) (by simp [AV.ren, renL, oneN]) (h.mono fun v τ q => q.2 hz)).mono ?_
    rintro v τ ⟨rfl, rfl⟩
    obtain ⟨⟨s, e⟩, _⟩ := twoK_ok hk
    exact ⟨s, e hz⟩
  · refine (SC.frameZ (v := .tup [.nilslice, .int .i64 (chkN (l2 fr to ks))]) (σ0 := hK ks) _ _ e1 e2 e3 e4 rfl (h.mono fun v τ q => q.1 hz)).mono ?_
    rintro v τ ⟨rfl, rfl⟩
    obtain ⟨_, s, e⟩ := twoK_ok hk
    exact ⟨s, e hz⟩
theorem prTa_tr (fr to : Int) (ks : List Int) : TrOk Try.prog 6 (prTa fr to ks) := by
  intro xs σ s K h
  unfold prTa at h
  split at h
  · rename_i a t b m
    split at h
    · rename_i cs hcs
      obtain ⟨h1, h2, h3, h4, h5, h6, hk⟩ := h
      cases (h1 : a = fr)
      cases (h2 : t = to)
      cases (h3 : cs = encI .i64 ks)
      cases (h5 : m = ks.length)
      exact pr_frame hcs h4 (pra_sc h6) hk
    · exact h.elim
  · exact h.elim
theorem prTb_tr (fr to : Int) (ks : List Int) : TrOk Try.prog 7 (prTb fr to ks) := by
  intro xs σ s K h
  unfold prTb at h
  split at h
  · rename_i a t b m c
    split at h
    · rename_i cs hcs
      obtain ⟨h1, h2, h3, h4, h5, h6, hk⟩ := h
      cases (h1 : a = fr)
      cases (h2 : t = to)
      cases (h3 : cs = encI .i64 ks)
      cases (h5 : m = ks.length)
      exact pr_frame hcs h4 (prb_sc h6) hk
    · exact h.elim
  · exact h.elim
def lvK : List AV → Option AV
  | [] => some (.bool true)
  | _ => none
theorem lvK_tr : TrOk Try.prog 5 (pureT lvK) := by
  refine pureT_ok ?_
  intro xs v h
  unfold lvK at h
  split at h
  · cases h
    exact ⟨rfl, rfl, klives_sc⟩
  · cases h
def purK2 : Pur := [(5, lvK)]
theorem purK2_ok : PurOk Try.prog purK2 := PurOk.cons lvK_tr PurOk.nil
def trsK (fr to : Int) (ks : List Int) : List (Nat × Tr1) := (6, prTa fr to ks) :: (7, prTb fr to ks) :: (8, tsT (l2 fr to ks)) :: purK2.map fun p => (p.1, pureT p.2)
theorem trsK_ok (fr to : Int) (ks : List Int) : TrsOk Try.prog (lookT (trsK fr to ks)) := TrsOk.cons (prTa_tr _ _ _) <| TrsOk.cons (prTb_tr _ _ _) <| TrsOk.cons (tsT_tr _) <| TrsOk.cons lvK_tr TrsOk.nil
noncomputable def XLw (fr to : Int) (ks : List Int) : Cx := ⟨Try.prog, lookT (trsK fr to ks), purO purK2, purK2.map (·.1), 20, lookL []⟩
theorem XLw_ok (fr to : Int) (ks : List Int) : CxOk (XLw fr to ks) := ⟨trsK_ok fr to ks, purO_ok purK2_ok, mixedky⟩
def okLn : List Nat := [6, 7, 8, 16, 17]
theorem okLn_ok : okFunsX Try.prog okLn = true := by kernel_rfl
noncomputable def XLn : Cx := cxP Try.prog purK2 okLn
theorem XLn_ok : CxOk (cxP Try.prog purK2 okLn) := cxP_ok mixedky purK2_ok okLn_ok
end Go.Proofs.Yteneafgmcmgahaa.V
