/- keys: lists of touches (part 5): the loops that press. -/
import Derived.Test.YteneafgmcmgahaaKpY
namespace Go.Proofs.Yteneafgmcmgahaa.V
open Go Go.Proofs
set_option maxRecDepth 100000
set_option maxHeartbeats 4000000
set_option linter.unusedSimpArgs false
set_option linter.unusedVariables false
theorem pfs_encI {k : IntKind} : ∀ {zs : List Int}, pfs (encI k zs) = true
  | [] => rfl
  | z :: r => by
    have := pfs_encI (k := k) (zs := r)
    unfold encI at this ⊢
    simp only [List.map_cons, pfs, this, Bool.and_true]
    rfl
theorem tcs_app (a b : List Tc) : tcs (a ++ b) = tcs a ++ tcs b := by unfold tcs; rw [List.flatMap_append]
theorem row_len (t : Int) (on : Bool) (ks : List Int) : (row t on ks).length = ks.length := by unfold row; simp
theorem enc_facts {ks : List Int} {i : Nat} (h : i < ks.length) : AV.toI (List.getD (encI .i64 ks) (0 + Int.toNat (i : Int) * 1) (.tup [])) = ks.getD i 0 ∧ AV.isI .i64 (List.getD (encI .i64 ks) (0 + Int.toNat (i : Int) * 1) (.tup [])) = true := by
  have e : List.getD (encI .i64 ks) (0 + Int.toNat (i : Int) * 1) (.tup []) = .int .i64 (ks.getD i 0) := by
    rw [show 0 + Int.toNat (i : Int) * 1 = i by simp]
    unfold encI
    rw [List.getD_eq_getElem?_getD, List.getElem?_map, List.getElem?_eq_getElem h, List.getD_eq_getElem?_getD, List.getElem?_eq_getElem h]
    rfl
  rw [e]
  exact ⟨rfl, rfl⟩
theorem row_take {t : Int} {on : Bool} {ks : List Int} {i : Nat} (h : i < ks.length) : row t on (ks.take (i + 1)) = row t on (ks.take i) ++ [(t, 1, ks.getD i 0, on)] := by
  unfold row
  rw [List.take_add_one, List.getElem?_eq_getElem h, List.getD_eq_getElem?_getD, List.getElem?_eq_getElem h, List.map_append]
  rfl
/-- What has been put together behind so many rounds. -/
def accL (l0 : List Tc) (t : Int) (on : Bool) (ks : List Int) (i : Nat) : List Tc := l0 ++ row t on (ks.take i)
theorem accL_len {l0 : List Tc} {t : Int} {on : Bool} {ks : List Int} {i : Nat} (h : i ≤ ks.length) : (accL l0 t on ks i).length = l0.length + i := by
  unfold accL; rw [List.length_append, row_len, List.length_take, Nat.min_eq_left h]
theorem accL_succ {l0 : List Tc} {t : Int} {on : Bool} {ks : List Int} {i : Nat} (h : i < ks.length) : tcs (accL l0 t on ks (i + 1)) = tcs (accL l0 t on ks i) ++ [.int .i64 t, .int .i64 1, .int .i64 (ks.getD i 0), .bool on] := by
  unfold accL
  rw [row_take h, ← List.append_assoc, tcs_app]
  rfl
theorem fit_a {fr to t q : Int} {on : Bool} {ks : List Int} {L : List Tc} {i : Int} {b : Nat} (hb : b = 2 ∨ b = 4) {vs : List (Option AV)} {σ : AH} (hv : vs = [some (.int .i64 fr), some (.int .i64 to), some (.slice 0 0 ks.length none), some (acV b L.length), some (.bool on), some (.int .i64 t), some (.slice 1 0 2 (some 2)), some (.int .i64 2), some (.int .i64 q), some (.slice 0 0 ks.length none), some (.int .i64 (ks.length : Int)), some (.int .i64 i)]) (g0 : σ.get 0 = .ro (encI .i64 ks)) (g1 : σ.get 1 = .cells 4 [.bool true, .bool false]) (g2 : L.length = 0 ∨ σ.get b = .opn 39 4 (tcs L)) :
    FitsS 1 [(0, 0), (1, 1), (b, 2)] slA 46 vs σ (aFr fr to t q i ks.length on (acV 2 L.length)) (aHp (encI .i64 ks) (acO (tcs L) L.length)) := by
  subst hv
  refine ⟨by rcases hb with rfl | rfl <;> rfl, ⟨?_, ?_, ?_, trivial⟩, rfl, ?_⟩
  · show ObjRen _ (σ.get 0) _
    rw [g0]; exact .inr ⟨pfs_encI, rfl⟩
  · show ObjRen _ (σ.get 1) _
    rw [g1]; exact ⟨rfl, .inr ⟨rfl, rfl⟩⟩
  · show ObjRen _ (σ.get b) (acO (tcs L) L.length)
    cases hL : L.length with
    | zero => cases σ.get b <;> trivial
    | succ k =>
      rcases g2 with h | h
      · omega
      · rw [h]; exact ⟨rfl, rfl, .inr ⟨pfs_tcs L, rfl⟩⟩
  · cases hL : L.length <;> rcases hb with rfl | rfl <;> exact ⟨rfl, rfl, rfl, rfl, rfl, rfl, rfl, rfl, rfl, rfl, rfl, rfl, trivial⟩
theorem a_wl {fr to t q : Int} {on : Bool} {ks : List Int} {l0 : List Tc} (hk : ks.length ≤ 100) (h0 : l0.length ≤ 100) :
    WL Try.prog 1 (loopAt Try.prog 6 1) (fun e fr' σ' => e = .exit 2 ∧ fr' = (aFr fr to t q (ks.length : Int) ks.length on (acV 2 (accL l0 t on ks ks.length).length)) ∧ σ' = (aHp (encI .i64 ks) (acO (tcs (accL l0 t on ks ks.length)) (accL l0 t on ks ks.length).length))) (aFr fr to t q 0 ks.length on (acV 2 (accL l0 t on ks 0).length)) (aHp (encI .i64 ks) (acO (tcs (accL l0 t on ks 0)) (accL l0 t on ks 0).length)) := by
  have key := WL_fam (P := Try.prog) (n0 := 1) (b := loopAt Try.prog 6 1) (Q := fun e fr' σ' => e = .exit 2 ∧ fr' = (aFr fr to t q (ks.length : Int) ks.length on (acV 2 (accL l0 t on ks ks.length).length)) ∧ σ' = (aHp (encI .i64 ks) (acO (tcs (accL l0 t on ks ks.length)) (accL l0 t on ks ks.length).length)))
    (ι := {i : Nat // i ≤ ks.length}) (fun i => ((aFr fr to t q (i.1 : Int) ks.length on (acV 2 (accL l0 t on ks i.1).length)), (aHp (encI .i64 ks) (acO (tcs (accL l0 t on ks i.1)) (accL l0 t on ks i.1).length)))) (fun i => ks.length - i.1) ?_ ⟨0, Nat.zero_le _⟩
  · exact key
  rintro ⟨i, hi⟩
  show WP Try.prog 1 (loopAt Try.prog 6 1) _ (aFr fr to t q (i : Int) ks.length on (acV 2 (accL l0 t on ks i).length)) (aHp (encI .i64 ks) (acO (tcs (accL l0 t on ks i)) (accL l0 t on ks i).length))
  have hlen := accL_len (l0 := l0) (t := t) (on := on) hi
  have w1 : IntKind.wrap IntKind.i64 ((i : Int) + 1) = ((i + 1 : Nat) : Int) := by rw [wrap_in (by omega) (by omega)]; omega
  have cut : (i : Int) < (ks.length : Int) → decide ((0 : Int) ≤ (i : Int) ∧ (i : Int) < (ks.length : Int)) = true ∧ decide ((0 : Nat) + Int.toNat (i : Int) * 1 < List.length (encI .i64 ks)) = true := fun h => ⟨decide_eq_true ⟨by omega, h⟩, decide_eq_true (by unfold encI; rw [List.length_map]; simp; omega)⟩
  have next : ∀ (hlt : i < ks.length) (u : Unit) gs fr' σ', True → Fits 1 gs fr' σ' (aFr fr to t q ((i + 1 : Nat) : Int) ks.length on (acV 2 (accL l0 t on ks (i + 1)).length)) (aHp (encI .i64 ks) (acO (tcs (accL l0 t on ks (i + 1))) (accL l0 t on ks (i + 1)).length)) → ∃ (j : {i : Nat // i ≤ ks.length}) (gs : _), ks.length - j.1 < ks.length - i ∧ Fits 1 gs fr' σ' (aFr fr to t q (j.1 : Int) ks.length on (acV 2 (accL l0 t on ks j.1).length)) (aHp (encI .i64 ks) (acO (tcs (accL l0 t on ks j.1)) (accL l0 t on ks j.1).length)) :=
    fun hlt u gs fr' σ' _ hf => ⟨⟨i + 1, hlt⟩, gs, by show ks.length - (i + 1) < ks.length - i; omega, hf⟩
  by_cases hlt : i < ks.length
  · obtain ⟨e1, e2⟩ := cut (by omega)
    obtain ⟨k1, k2⟩ := enc_facts hlt
    have hlen1 := accL_len (l0 := l0) (t := t) (on := on) (show i + 1 ≤ ks.length by omega)
    have hd : ¬ (decide ((i : Int) < (ks.length : Int)) = false) := by simp; omega
    by_cases hz : l0.length + i = 0
    · have z0 : (accL l0 t on ks i).length = 0 := by omega
      have zl : accL l0 t on ks i = [] := List.eq_nil_of_length_eq_zero z0
      have es := accL_succ (l0 := l0) (t := t) (on := on) hlt
      rw [zl] at es
      rw [z0]
      refine segE (s := aN_scr) (A := fun N Q => aN_VC fr to t q (i : Int) ks.length on (encI .i64 ks) N Q ()) XK1_ok rfl (by kernel_rfl) slA (fun _ : Unit => ((aFr fr to t q ((i + 1 : Nat) : Int) ks.length on (acV 2 (accL l0 t on ks (i + 1)).length)), (aHp (encI .i64 ks) (acO (tcs (accL l0 t on ks (i + 1))) (accL l0 t on ks (i + 1)).length)))) (fun _ => True) (next hlt) (fun N Q' => aN_vc fr to t q (i : Int) ks.length on (encI .i64 ks) N Q' ()) ?_
      unfold aN_VC
      rw [e1, e2, k1, k2, w1]
      refine ⟨fun _ => ⟨rfl, rfl, rfl, (), [(0, 0), (1, 1), (4, 2)], trivial, fit_a (.inr rfl) ?_ rfl rfl (.inr ?_)⟩, fun h => absurd h hd⟩
      · rw [show (accL l0 t on ks (i + 1)).length = 1 by omega]; rfl
      · rw [es]; rfl
    · have hp : 0 < (accL l0 t on ks i).length := by omega
      have es := accL_succ (l0 := l0) (t := t) (on := on) hlt
      have f1 : decide ((0 : Nat) < (accL l0 t on ks i).length) = true := decide_eq_true hp
      have f2 : decide ((accL l0 t on ks i).length * 4 = List.length (tcs (accL l0 t on ks i))) = true := by rw [tcs_len]; exact decide_eq_true rfl
      have f3 : decide (((accL l0 t on ks i).length + 1) * 32 ≤ 140737488355328) = true := decide_eq_true (by omega)
      have f4 : decide ((accL l0 t on ks i).length + 1 ≤ 140737488355328) = true := decide_eq_true (by omega)
      rw [acV_pos hp, acO_pos hp]
      refine segE (s := aS_scr) (A := fun N Q => aS_VC fr to t q (i : Int) ks.length (accL l0 t on ks i).length on (encI .i64 ks) (tcs (accL l0 t on ks i)) N Q ()) XK1_ok rfl (by kernel_rfl) slA (fun _ : Unit => ((aFr fr to t q ((i + 1 : Nat) : Int) ks.length on (acV 2 (accL l0 t on ks (i + 1)).length)), (aHp (encI .i64 ks) (acO (tcs (accL l0 t on ks (i + 1))) (accL l0 t on ks (i + 1)).length)))) (fun _ => True) (next hlt) (fun N Q' => aS_vc fr to t q (i : Int) ks.length (accL l0 t on ks i).length on (encI .i64 ks) (tcs (accL l0 t on ks i)) N Q' ()) ?_
      unfold aS_VC
      rw [e1, e2, k1, k2, w1, f1, f2, f3, f4]
      refine ⟨fun _ => ⟨rfl, rfl, rfl, rfl, rfl, rfl, rfl, (), [(0, 0), (1, 1), (4, 2)], trivial, fit_a (.inr rfl) ?_ rfl rfl (.inr ?_)⟩, fun h => absurd h hd⟩
      · rw [show (accL l0 t on ks (i + 1)).length = (accL l0 t on ks i).length + 1 by omega]; rfl
      · rw [es]; rfl
  · obtain rfl : i = ks.length := by omega
    have hd : ¬ (decide ((ks.length : Int) < (ks.length : Int)) = true) := by simp
    by_cases hz : l0.length + ks.length = 0
    · have z0 : (accL l0 t on ks ks.length).length = 0 := by omega
      have zq : (aHp (encI .i64 ks) (acO (tcs (accL l0 t on ks ks.length)) (accL l0 t on ks ks.length).length)) = (aHp (encI .i64 ks) .dead) := by rw [z0]; rfl
      have zf : (aFr fr to t q (ks.length : Int) ks.length on (acV 2 (accL l0 t on ks ks.length).length)) = (aFr fr to t q (ks.length : Int) ks.length on .nilslice) := by rw [z0]; rfl
      rw [zq, zf]
      refine segE (s := aN_scr) (A := fun N Q => aN_VC fr to t q (ks.length : Int) ks.length on (encI .i64 ks) N Q ()) XK1_ok rfl (by kernel_rfl) slA (fun _ : Unit => ((aFr fr to t q (ks.length : Int) ks.length on .nilslice), (aHp (encI .i64 ks) .dead))) (fun _ => False) (fun _ _ _ _ h => h.elim) (fun N Q' => aN_vc fr to t q (ks.length : Int) ks.length on (encI .i64 ks) N Q' ()) ?_
      unfold aN_VC
      refine ⟨fun h => absurd h hd, fun _ => ?_⟩
      have := fit_a (fr := fr) (to := to) (t := t) (q := q) (on := on) (ks := ks) (L := accL l0 t on ks ks.length) (i := (ks.length : Int)) (b := 2) (.inl rfl) (σ := (aHp (encI .i64 ks) .dead)) rfl rfl rfl (.inl z0)
      rw [zq, zf, z0] at this
      exact ⟨[(0, 0), (1, 1), (2, 2)], _, _, this, rfl, rfl, rfl⟩
    · have hp : 0 < (accL l0 t on ks ks.length).length := by omega
      have zq : (aHp (encI .i64 ks) (acO (tcs (accL l0 t on ks ks.length)) (accL l0 t on ks ks.length).length)) = (aHp (encI .i64 ks) (.opn 39 4 (tcs (accL l0 t on ks ks.length)))) := by rw [acO_pos hp]
      have zf : (aFr fr to t q (ks.length : Int) ks.length on (acV 2 (accL l0 t on ks ks.length).length)) = (aFr fr to t q (ks.length : Int) ks.length on (.slice 2 0 (accL l0 t on ks ks.length).length none)) := by rw [acV_pos hp]
      rw [zq, zf]
      refine segE (s := aS_scr) (A := fun N Q => aS_VC fr to t q (ks.length : Int) ks.length (accL l0 t on ks ks.length).length on (encI .i64 ks) (tcs (accL l0 t on ks ks.length)) N Q ()) XK1_ok rfl (by kernel_rfl) slA (fun _ : Unit => ((aFr fr to t q (ks.length : Int) ks.length on .nilslice), (aHp (encI .i64 ks) .dead))) (fun _ => False) (fun _ _ _ _ h => h.elim) (fun N Q' => aS_vc fr to t q (ks.length : Int) ks.length (accL l0 t on ks ks.length).length on (encI .i64 ks) (tcs (accL l0 t on ks ks.length)) N Q' ()) ?_
      unfold aS_VC
      refine ⟨fun h => absurd h hd, fun _ => ?_⟩
      have := fit_a (fr := fr) (to := to) (t := t) (q := q) (on := on) (ks := ks) (L := accL l0 t on ks ks.length) (i := (ks.length : Int)) (b := 2) (.inl rfl) (σ := (aHp (encI .i64 ks) (.opn 39 4 (tcs (accL l0 t on ks ks.length))))) rfl rfl rfl (.inr rfl)
      rw [zq, zf, acV_pos hp] at this
      exact ⟨[(0, 0), (1, 1), (2, 2)], _, _, this, rfl, rfl, rfl⟩
theorem fit_b {c : Option Nat} {fr to : Int} {ks : List Int} {L : List Tc} {i : Int} {b : Nat} (hb : b = 1 ∨ b = 3) {vs : List (Option AV)} {σ : AH} (hv : vs = [some (.int .i64 fr), some (.int .i64 to), some (.slice 0 0 ks.length c), some (acV b L.length), some (.int .i64 i)]) (g0 : σ.get 0 = .ro (encI .i64 ks)) (g2 : L.length = 0 ∨ σ.get b = .opn 39 4 (tcs L)) :
    FitsS 1 [(0, 0), (b, 1)] [0, 1, 2, 8, 9] 48 vs σ (bFr c fr to i ks.length (acV 1 L.length)) (bHp (encI .i64 ks) (acO (tcs L) L.length)) := by
  subst hv
  refine ⟨by rcases hb with rfl | rfl <;> rfl, ⟨?_, ?_, trivial⟩, rfl, ?_⟩
  · show ObjRen _ (σ.get 0) _
    rw [g0]; exact .inr ⟨pfs_encI, rfl⟩
  · show ObjRen _ (σ.get b) (acO (tcs L) L.length)
    cases hL : L.length with
    | zero => cases σ.get b <;> trivial
    | succ k =>
      rcases g2 with h | h
      · omega
      · rw [h]; exact ⟨rfl, rfl, .inr ⟨pfs_tcs L, rfl⟩⟩
  · cases hL : L.length <;> rcases hb with rfl | rfl <;> exact ⟨rfl, rfl, rfl, rfl, rfl, trivial⟩
theorem b_wl {c : Option Nat} {fr to : Int} {ks : List Int} {l0 : List Tc} (hk : ks.length ≤ 100) (h0 : l0.length ≤ 100) :
    WL Try.prog 1 (loopAt Try.prog 7 0) (fun e fr' σ' => e = .exit 0 ∧ fr' = (bFr c fr to (ks.length : Int) ks.length (acV 1 (accL l0 fr true ks ks.length).length)) ∧ σ' = (bHp (encI .i64 ks) (acO (tcs (accL l0 fr true ks ks.length)) (accL l0 fr true ks ks.length).length))) (bFr c fr to 0 ks.length (acV 1 (accL l0 fr true ks 0).length)) (bHp (encI .i64 ks) (acO (tcs (accL l0 fr true ks 0)) (accL l0 fr true ks 0).length)) := by
  have key := WL_fam (P := Try.prog) (n0 := 1) (b := loopAt Try.prog 7 0) (Q := fun e fr' σ' => e = .exit 0 ∧ fr' = (bFr c fr to (ks.length : Int) ks.length (acV 1 (accL l0 fr true ks ks.length).length)) ∧ σ' = (bHp (encI .i64 ks) (acO (tcs (accL l0 fr true ks ks.length)) (accL l0 fr true ks ks.length).length)))
    (ι := {i : Nat // i ≤ ks.length}) (fun i => ((bFr c fr to (i.1 : Int) ks.length (acV 1 (accL l0 fr true ks i.1).length)), (bHp (encI .i64 ks) (acO (tcs (accL l0 fr true ks i.1)) (accL l0 fr true ks i.1).length)))) (fun i => ks.length - i.1) ?_ ⟨0, Nat.zero_le _⟩
  · exact key
  rintro ⟨i, hi⟩
  show WP Try.prog 1 (loopAt Try.prog 7 0) _ (bFr c fr to (i : Int) ks.length (acV 1 (accL l0 fr true ks i).length)) (bHp (encI .i64 ks) (acO (tcs (accL l0 fr true ks i)) (accL l0 fr true ks i).length))
  have hlen := accL_len (l0 := l0) (t := fr) (on := true) hi
  have w1 : IntKind.wrap IntKind.i64 ((i : Int) + 1) = ((i + 1 : Nat) : Int) := by rw [wrap_in (by omega) (by omega)]; omega
  have cut : (i : Int) < (ks.length : Int) → decide ((0 : Int) ≤ (i : Int) ∧ (i : Int) < (ks.length : Int)) = true ∧ decide ((0 : Nat) + Int.toNat (i : Int) * 1 < List.length (encI .i64 ks)) = true := fun h => ⟨decide_eq_true ⟨by omega, h⟩, decide_eq_true (by unfold encI; rw [List.length_map]; simp; omega)⟩
  have next : ∀ (hlt : i < ks.length) (u : Unit) gs fr' σ', True → Fits 1 gs fr' σ' (bFr c fr to ((i + 1 : Nat) : Int) ks.length (acV 1 (accL l0 fr true ks (i + 1)).length)) (bHp (encI .i64 ks) (acO (tcs (accL l0 fr true ks (i + 1))) (accL l0 fr true ks (i + 1)).length)) → ∃ (j : {i : Nat // i ≤ ks.length}) (gs : _), ks.length - j.1 < ks.length - i ∧ Fits 1 gs fr' σ' (bFr c fr to (j.1 : Int) ks.length (acV 1 (accL l0 fr true ks j.1).length)) (bHp (encI .i64 ks) (acO (tcs (accL l0 fr true ks j.1)) (accL l0 fr true ks j.1).length)) :=
    fun hlt u gs fr' σ' _ hf => ⟨⟨i + 1, hlt⟩, gs, by show ks.length - (i + 1) < ks.length - i; omega, hf⟩
  by_cases hlt : i < ks.length
  · obtain ⟨e1, e2⟩ := cut (by omega)
    obtain ⟨k1, k2⟩ := enc_facts hlt
    have hlen1 := accL_len (l0 := l0) (t := fr) (on := true) (show i + 1 ≤ ks.length by omega)
    have hd : ¬ (decide ((i : Int) < (ks.length : Int)) = false) := by simp; omega
    by_cases hz : l0.length + i = 0
    · have z0 : (accL l0 fr true ks i).length = 0 := by omega
      have zl : accL l0 fr true ks i = [] := List.eq_nil_of_length_eq_zero z0
      have es := accL_succ (l0 := l0) (t := fr) (on := true) hlt
      rw [zl] at es
      rw [z0]
      refine segE (s := bN_scr) (A := fun N Q => bN_VC c fr to (i : Int) ks.length (encI .i64 ks) N Q ()) XK1_ok rfl (by kernel_rfl) [0, 1, 2, 8, 9] (fun _ : Unit => ((bFr c fr to ((i + 1 : Nat) : Int) ks.length (acV 1 (accL l0 fr true ks (i + 1)).length)), (bHp (encI .i64 ks) (acO (tcs (accL l0 fr true ks (i + 1))) (accL l0 fr true ks (i + 1)).length)))) (fun _ => True) (next hlt) (fun N Q' => bN_vc c fr to (i : Int) ks.length (encI .i64 ks) N Q' ()) ?_
      unfold bN_VC
      rw [e1, e2, k1, k2, w1]
      refine ⟨fun _ => ⟨rfl, rfl, rfl, (), [(0, 0), (3, 1)], trivial, fit_b (.inr rfl) ?_ rfl (.inr ?_)⟩, fun h => absurd h hd⟩
      · rw [show (accL l0 fr true ks (i + 1)).length = 1 by omega]; rfl
      · rw [es]; rfl
    · have hp : 0 < (accL l0 fr true ks i).length := by omega
      have es := accL_succ (l0 := l0) (t := fr) (on := true) hlt
      have f1 : decide ((0 : Nat) < (accL l0 fr true ks i).length) = true := decide_eq_true hp
      have f2 : decide ((accL l0 fr true ks i).length * 4 = List.length (tcs (accL l0 fr true ks i))) = true := by rw [tcs_len]; exact decide_eq_true rfl
      have f3 : decide (((accL l0 fr true ks i).length + 1) * 32 ≤ 140737488355328) = true := decide_eq_true (by omega)
      have f4 : decide ((accL l0 fr true ks i).length + 1 ≤ 140737488355328) = true := decide_eq_true (by omega)
      rw [acV_pos hp, acO_pos hp]
      refine segE (s := bS_scr) (A := fun N Q => bS_VC c fr to (i : Int) ks.length (accL l0 fr true ks i).length (encI .i64 ks) (tcs (accL l0 fr true ks i)) N Q ()) XK1_ok rfl (by kernel_rfl) [0, 1, 2, 8, 9] (fun _ : Unit => ((bFr c fr to ((i + 1 : Nat) : Int) ks.length (acV 1 (accL l0 fr true ks (i + 1)).length)), (bHp (encI .i64 ks) (acO (tcs (accL l0 fr true ks (i + 1))) (accL l0 fr true ks (i + 1)).length)))) (fun _ => True) (next hlt) (fun N Q' => bS_vc c fr to (i : Int) ks.length (accL l0 fr true ks i).length (encI .i64 ks) (tcs (accL l0 fr true ks i)) N Q' ()) ?_
      unfold bS_VC
      rw [e1, e2, k1, k2, w1, f1, f2, f3, f4]
      refine ⟨fun _ => ⟨rfl, rfl, rfl, rfl, rfl, rfl, rfl, (), [(0, 0), (3, 1)], trivial, fit_b (.inr rfl) ?_ rfl (.inr ?_)⟩, fun h => absurd h hd⟩
      · rw [show (accL l0 fr true ks (i + 1)).length = (accL l0 fr true ks i).length + 1 by omega]; rfl
      · rw [es]; rfl
  · obtain rfl : i = ks.length := by omega
    have hd : ¬ (decide ((ks.length : Int) < (ks.length : Int)) = true) := by simp
    by_cases hz : l0.length + ks.length = 0
    · have z0 : (accL l0 fr true ks ks.length).length = 0 := by omega
      have zq : (bHp (encI .i64 ks) (acO (tcs (accL l0 fr true ks ks.length)) (accL l0 fr true ks ks.length).length)) = (bHp (encI .i64 ks) .dead) := by rw [z0]; rfl
      have zf : (bFr c fr to (ks.length : Int) ks.length (acV 1 (accL l0 fr true ks ks.length).length)) = (bFr c fr to (ks.length : Int) ks.length .nilslice) := by rw [z0]; rfl
      rw [zq, zf]
      refine segE (s := bN_scr) (A := fun N Q => bN_VC c fr to (ks.length : Int) ks.length (encI .i64 ks) N Q ()) XK1_ok rfl (by kernel_rfl) [0, 1, 2, 8, 9] (fun _ : Unit => ((bFr c fr to (ks.length : Int) ks.length .nilslice), (bHp (encI .i64 ks) .dead))) (fun _ => False) (fun _ _ _ _ h => h.elim) (fun N Q' => bN_vc c fr to (ks.length : Int) ks.length (encI .i64 ks) N Q' ()) ?_
      unfold bN_VC
      refine ⟨fun h => absurd h hd, fun _ => ?_⟩
      have := fit_b (c := c) (fr := fr) (to := to) (ks := ks) (L := accL l0 fr true ks ks.length) (i := (ks.length : Int)) (b := 1) (.inl rfl) (σ := (bHp (encI .i64 ks) .dead)) rfl rfl (.inl z0)
      rw [zq, zf, z0] at this
      exact ⟨[(0, 0), (1, 1)], _, _, this, rfl, rfl, rfl⟩
    · have hp : 0 < (accL l0 fr true ks ks.length).length := by omega
      have zq : (bHp (encI .i64 ks) (acO (tcs (accL l0 fr true ks ks.length)) (accL l0 fr true ks ks.length).length)) = (bHp (encI .i64 ks) (.opn 39 4 (tcs (accL l0 fr true ks ks.length)))) := by rw [acO_pos hp]
      have zf : (bFr c fr to (ks.length : Int) ks.length (acV 1 (accL l0 fr true ks ks.length).length)) = (bFr c fr to (ks.length : Int) ks.length (.slice 1 0 (accL l0 fr true ks ks.length).length none)) := by rw [acV_pos hp]
      rw [zq, zf]
      refine segE (s := bS_scr) (A := fun N Q => bS_VC c fr to (ks.length : Int) ks.length (accL l0 fr true ks ks.length).length (encI .i64 ks) (tcs (accL l0 fr true ks ks.length)) N Q ()) XK1_ok rfl (by kernel_rfl) [0, 1, 2, 8, 9] (fun _ : Unit => ((bFr c fr to (ks.length : Int) ks.length .nilslice), (bHp (encI .i64 ks) .dead))) (fun _ => False) (fun _ _ _ _ h => h.elim) (fun N Q' => bS_vc c fr to (ks.length : Int) ks.length (accL l0 fr true ks ks.length).length (encI .i64 ks) (tcs (accL l0 fr true ks ks.length)) N Q' ()) ?_
      unfold bS_VC
      refine ⟨fun h => absurd h hd, fun _ => ?_⟩
      have := fit_b (c := c) (fr := fr) (to := to) (ks := ks) (L := accL l0 fr true ks ks.length) (i := (ks.length : Int)) (b := 1) (.inl rfl) (σ := (bHp (encI .i64 ks) (.opn 39 4 (tcs (accL l0 fr true ks ks.length))))) rfl rfl (.inr rfl)
      rw [zq, zf, acV_pos hp] at this
      exact ⟨[(0, 0), (1, 1)], _, _, this, rfl, rfl, rfl⟩
theorem fit_d {c : Option Nat} {fr to : Int} {ks : List Int} {L : List Tc} {i : Int} {b : Nat} (hb : b = 1 ∨ b = 3) {vs : List (Option AV)} {σ : AH} (hv : vs = [some (.int .i64 fr), some (.int .i64 to), some (.slice 0 0 ks.length c), some (acV b L.length), some (.int .i64 i)]) (g0 : σ.get 0 = .ro (encI .i64 ks)) (g2 : L.length = 0 ∨ σ.get b = .opn 39 4 (tcs L)) :
    FitsS 1 [(0, 0), (b, 1)] [0, 1, 2, 8, 10] 48 vs σ (dFr c fr to i ks.length (acV 1 L.length)) (bHp (encI .i64 ks) (acO (tcs L) L.length)) := by
  subst hv
  refine ⟨by rcases hb with rfl | rfl <;> rfl, ⟨?_, ?_, trivial⟩, rfl, ?_⟩
  · show ObjRen _ (σ.get 0) _
    rw [g0]; exact .inr ⟨pfs_encI, rfl⟩
  · show ObjRen _ (σ.get b) (acO (tcs L) L.length)
    cases hL : L.length with
    | zero => cases σ.get b <;> trivial
    | succ k =>
      rcases g2 with h | h
      · omega
      · rw [h]; exact ⟨rfl, rfl, .inr ⟨pfs_tcs L, rfl⟩⟩
  · cases hL : L.length <;> rcases hb with rfl | rfl <;> exact ⟨rfl, rfl, rfl, rfl, rfl, trivial⟩
theorem d_wl {c : Option Nat} {fr to : Int} {ks : List Int} {l0 : List Tc} (hk : ks.length ≤ 100) (h0 : l0.length ≤ 100) (hpos : 0 < l0.length) :
    WL Try.prog 1 (loopAt Try.prog 7 1) (fun e fr' σ' => e = .exit 2 ∧ fr' = (dFr c fr to (ks.length : Int) ks.length (acV 1 (accL l0 to false ks ks.length).length)) ∧ σ' = (bHp (encI .i64 ks) (acO (tcs (accL l0 to false ks ks.length)) (accL l0 to false ks ks.length).length))) (dFr c fr to 0 ks.length (acV 1 (accL l0 to false ks 0).length)) (bHp (encI .i64 ks) (acO (tcs (accL l0 to false ks 0)) (accL l0 to false ks 0).length)) := by
  have key := WL_fam (P := Try.prog) (n0 := 1) (b := loopAt Try.prog 7 1) (Q := fun e fr' σ' => e = .exit 2 ∧ fr' = (dFr c fr to (ks.length : Int) ks.length (acV 1 (accL l0 to false ks ks.length).length)) ∧ σ' = (bHp (encI .i64 ks) (acO (tcs (accL l0 to false ks ks.length)) (accL l0 to false ks ks.length).length)))
    (ι := {i : Nat // i ≤ ks.length}) (fun i => ((dFr c fr to (i.1 : Int) ks.length (acV 1 (accL l0 to false ks i.1).length)), (bHp (encI .i64 ks) (acO (tcs (accL l0 to false ks i.1)) (accL l0 to false ks i.1).length)))) (fun i => ks.length - i.1) ?_ ⟨0, Nat.zero_le _⟩
  · exact key
  rintro ⟨i, hi⟩
  show WP Try.prog 1 (loopAt Try.prog 7 1) _ (dFr c fr to (i : Int) ks.length (acV 1 (accL l0 to false ks i).length)) (bHp (encI .i64 ks) (acO (tcs (accL l0 to false ks i)) (accL l0 to false ks i).length))
  have hlen := accL_len (l0 := l0) (t := to) (on := false) hi
  have w1 : IntKind.wrap IntKind.i64 ((i : Int) + 1) = ((i + 1 : Nat) : Int) := by rw [wrap_in (by omega) (by omega)]; omega
  have cut : (i : Int) < (ks.length : Int) → decide ((0 : Int) ≤ (i : Int) ∧ (i : Int) < (ks.length : Int)) = true ∧ decide ((0 : Nat) + Int.toNat (i : Int) * 1 < List.length (encI .i64 ks)) = true := fun h => ⟨decide_eq_true ⟨by omega, h⟩, decide_eq_true (by unfold encI; rw [List.length_map]; simp; omega)⟩
  have next : ∀ (hlt : i < ks.length) (u : Unit) gs fr' σ', True → Fits 1 gs fr' σ' (dFr c fr to ((i + 1 : Nat) : Int) ks.length (acV 1 (accL l0 to false ks (i + 1)).length)) (bHp (encI .i64 ks) (acO (tcs (accL l0 to false ks (i + 1))) (accL l0 to false ks (i + 1)).length)) → ∃ (j : {i : Nat // i ≤ ks.length}) (gs : _), ks.length - j.1 < ks.length - i ∧ Fits 1 gs fr' σ' (dFr c fr to (j.1 : Int) ks.length (acV 1 (accL l0 to false ks j.1).length)) (bHp (encI .i64 ks) (acO (tcs (accL l0 to false ks j.1)) (accL l0 to false ks j.1).length)) :=
    fun hlt u gs fr' σ' _ hf => ⟨⟨i + 1, hlt⟩, gs, by show ks.length - (i + 1) < ks.length - i; omega, hf⟩
  by_cases hlt : i < ks.length
  · obtain ⟨e1, e2⟩ := cut (by omega)
    obtain ⟨k1, k2⟩ := enc_facts hlt
    have hlen1 := accL_len (l0 := l0) (t := to) (on := false) (show i + 1 ≤ ks.length by omega)
    have hd : ¬ (decide ((i : Int) < (ks.length : Int)) = false) := by simp; omega
    by_cases hz : l0.length + i = 0
    · omega
    · have hp : 0 < (accL l0 to false ks i).length := by omega
      have es := accL_succ (l0 := l0) (t := to) (on := false) hlt
      have f1 : decide ((0 : Nat) < (accL l0 to false ks i).length) = true := decide_eq_true hp
      have f2 : decide ((accL l0 to false ks i).length * 4 = List.length (tcs (accL l0 to false ks i))) = true := by rw [tcs_len]; exact decide_eq_true rfl
      have f3 : decide (((accL l0 to false ks i).length + 1) * 32 ≤ 140737488355328) = true := decide_eq_true (by omega)
      have f4 : decide ((accL l0 to false ks i).length + 1 ≤ 140737488355328) = true := decide_eq_true (by omega)
      rw [acV_pos hp, acO_pos hp]
      refine segE (s := dS_scr) (A := fun N Q => dS_VC c fr to (i : Int) ks.length (accL l0 to false ks i).length (encI .i64 ks) (tcs (accL l0 to false ks i)) N Q ()) XK1_ok rfl (by kernel_rfl) [0, 1, 2, 8, 10] (fun _ : Unit => ((dFr c fr to ((i + 1 : Nat) : Int) ks.length (acV 1 (accL l0 to false ks (i + 1)).length)), (bHp (encI .i64 ks) (acO (tcs (accL l0 to false ks (i + 1))) (accL l0 to false ks (i + 1)).length)))) (fun _ => True) (next hlt) (fun N Q' => dS_vc c fr to (i : Int) ks.length (accL l0 to false ks i).length (encI .i64 ks) (tcs (accL l0 to false ks i)) N Q' ()) ?_
      unfold dS_VC
      rw [e1, e2, k1, k2, w1, f1, f2, f3, f4]
      refine ⟨fun _ => ⟨rfl, rfl, rfl, rfl, rfl, rfl, rfl, (), [(0, 0), (3, 1)], trivial, fit_d (.inr rfl) ?_ rfl (.inr ?_)⟩, fun h => absurd h hd⟩
      · rw [show (accL l0 to false ks (i + 1)).length = (accL l0 to false ks i).length + 1 by omega]; rfl
      · rw [es]; rfl
  · obtain rfl : i = ks.length := by omega
    have hd : ¬ (decide ((ks.length : Int) < (ks.length : Int)) = true) := by simp
    by_cases hz : l0.length + ks.length = 0
    · omega
    · have hp : 0 < (accL l0 to false ks ks.length).length := by omega
      have zq : (bHp (encI .i64 ks) (acO (tcs (accL l0 to false ks ks.length)) (accL l0 to false ks ks.length).length)) = (bHp (encI .i64 ks) (.opn 39 4 (tcs (accL l0 to false ks ks.length)))) := by rw [acO_pos hp]
      have zf : (dFr c fr to (ks.length : Int) ks.length (acV 1 (accL l0 to false ks ks.length).length)) = (dFr c fr to (ks.length : Int) ks.length (.slice 1 0 (accL l0 to false ks ks.length).length none)) := by rw [acV_pos hp]
      rw [zq, zf]
      refine segE (s := dS_scr) (A := fun N Q => dS_VC c fr to (ks.length : Int) ks.length (accL l0 to false ks ks.length).length (encI .i64 ks) (tcs (accL l0 to false ks ks.length)) N Q ()) XK1_ok rfl (by kernel_rfl) [0, 1, 2, 8, 10] (fun _ : Unit => ((dFr c fr to (ks.length : Int) ks.length .nilslice), (bHp (encI .i64 ks) .dead))) (fun _ => False) (fun _ _ _ _ h => h.elim) (fun N Q' => dS_vc c fr to (ks.length : Int) ks.length (accL l0 to false ks ks.length).length (encI .i64 ks) (tcs (accL l0 to false ks ks.length)) N Q' ()) ?_
      unfold dS_VC
      refine ⟨fun h => absurd h hd, fun _ => ?_⟩
      have := fit_d (c := c) (fr := fr) (to := to) (ks := ks) (L := accL l0 to false ks ks.length) (i := (ks.length : Int)) (b := 1) (.inl rfl) (σ := (bHp (encI .i64 ks) (.opn 39 4 (tcs (accL l0 to false ks ks.length))))) rfl rfl (.inr rfl)
      rw [zq, zf, acV_pos hp] at this
      exact ⟨[(0, 0), (1, 1)], _, _, this, rfl, rfl, rfl⟩
end Go.Proofs.Yteneafgmcmgahaa.V
