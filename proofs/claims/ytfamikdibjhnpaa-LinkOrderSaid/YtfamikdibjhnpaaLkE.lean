/- link: what is sent and taken (part 2): Send and Take, as ways. -/
import Derived.Test.YtfamikdibjhnpaaLkY
namespace Go.Proofs.Ytfamikdibjhnpaa.V
open Go Go.Proofs
set_option maxRecDepth 100000
set_option maxHeartbeats 4000000
set_option linter.unusedSimpArgs false
set_option linter.unusedVariables false
theorem wrap_in {n : Int} (h1 : -9223372036854775808 ≤ n) (h2 : n ≤ 9223372036854775807) : IntKind.i64.wrap n = n := by
  rw [IntKind.wrap_i64]; omega
theorem pfs_app : ∀ {a b : List AV}, pfs a = true → pfs b = true → pfs (a ++ b) = true
  | [], b, _, h => h
  | v :: r, b, h, h' => by
    simp only [List.cons_append, pfs, Bool.and_eq_true] at h ⊢
    exact ⟨h.1, pfs_app h.2 h'⟩
theorem pfs_take : ∀ {a : List AV} (n : Nat), pfs a = true → pfs (a.take n) = true
  | [], n, h => by simp
  | v :: r, 0, h => by simp
  | v :: r, n + 1, h => by
    simp only [List.take_succ_cons, pfs, Bool.and_eq_true] at h ⊢
    exact ⟨h.1, pfs_take n h.2⟩
theorem pfs_drop : ∀ {a : List AV} (n : Nat), pfs a = true → pfs (a.drop n) = true
  | [], n, h => by simp
  | v :: r, 0, h => h
  | v :: r, n + 1, h => by
    simp only [pfs, Bool.and_eq_true] at h
    simpa using pfs_drop n h.2
/-- The ring with one message more; a message's numbers. -/
def snR (n : Nat) (fr ct : Int) (rc : List AV) (k t c h b p v : Int) : List AV := splice rc ((Int.tmod (fr + ct) (n : Int)).toNat * 7) [.int .i64 k, .int .i64 t, .int .i64 c, .int .u8 h, .int .i64 b, .int .i64 p, .int .u8 v]
def qI (rc : List AV) (fr : Int) (j : Nat) : Int := AV.toI (rc.getD (fr.toNat * 7 + j) (.tup []))
def nxF (n : Nat) (fr : Int) : Int := Int.tmod (fr + 1) (n : Int)
def Ring (n : Nat) (rc : List AV) : Prop := rc.length = n * 7 ∧ pfs rc = true ∧ ∀ i, i < n → (rc.getD (i * 7 + 0) (.tup [])).isI .i64 = true ∧ (rc.getD (i * 7 + 1) (.tup [])).isI .i64 = true ∧ (rc.getD (i * 7 + 2) (.tup [])).isI .i64 = true ∧ (rc.getD (i * 7 + 3) (.tup [])).isI .u8 = true ∧ (rc.getD (i * 7 + 4) (.tup [])).isI .i64 = true ∧ (rc.getD (i * 7 + 5) (.tup [])).isI .i64 = true ∧ (rc.getD (i * 7 + 6) (.tup [])).isI .u8 = true
def lnOk (n n' : Nat) (fr ct : Int) (rc : List AV) : Prop := n' = n ∧ 0 < n ∧ n ≤ 9 ∧ 0 ≤ fr ∧ fr < (n : Int) ∧ 0 ≤ ct ∧ ct ≤ (n : Int) ∧ Ring n rc
def PqS (n : Nat) (fr ct mk : Int) (en : Bool) (rc : List AV) (k t c h b p v : Int) (x : AV) (rs ls : List AV) : Prop :=
  (∃ m : Nat, x = .int .i64 (Int.ofNat (Nat.succ m)) ∧ rs = rc ∧ ls = [.slice 0 0 n (some n), .int .i64 fr, .int .i64 ct, .int .i64 mk, .bool en]) ∨
  ((en = false ∧ ¬ t < mk ∧ ¬ ct = (n : Int)) ∧ x = .int .i64 0 ∧ rs = snR n fr ct rc k t c h b p v ∧ ls = [.slice 0 0 n (some n), .int .i64 fr, .int .i64 (ct + 1), .int .i64 t, .bool (decide (k = 5))])
theorem send_sc {n : Nat} {fr ct : Int} (mk : Int) (en : Bool) {rc : List AV} (hk : lnOk n n fr ct rc) (k t c h b p v : Int) : SC Try.prog 8 [.ptr 1 0, .agg [.int .i64 k, .int .i64 t, .int .i64 c, .int .u8 h, .int .i64 b, .int .i64 p, .int .u8 v]] ⟨2, [(1, .cells 42 [.slice 0 0 n (some n), .int .i64 fr, .int .i64 ct, .int .i64 mk, .bool en]), (0, .cells 33 rc)]⟩
    (fun x τ => ∃ rs ls, PqS n fr ct mk en rc k t c h b p v x rs ls ∧ τ.get 0 = .cells 33 rs ∧ τ.get 1 = .cells 42 ls) := by
  obtain ⟨_, h1, h2, h3, h4, h5, h6, h7, h8, h9⟩ := hk
  refine (funP_sound XRo_ok (f := 8) (by kernel_rfl) (fun p _ L hL => by cases hL) _ _ snd_scr _ ((snd_vc n fr ct mk en rc k t c h b p v (fun x τ => ∃ rs ls, PqS n fr ct mk en rc k t c h b p v x rs ls ∧ τ.get 0 = .cells 33 rs ∧ τ.get 1 = .cells 42 ls)).mpr ?_)).mono (fun v σ ⟨s, q⟩ => q)
  unfold snd_VC
  have m0 : 0 ≤ Int.tmod (fr + ct) (n : Int) := Int.tmod_nonneg _ (by omega)
  have m1 : Int.tmod (fr + ct) (n : Int) < (n : Int) := Int.tmod_lt_of_pos _ (by omega)
  have w1 : IntKind.i64.wrap (fr + ct) = fr + ct := wrap_in (by omega) (by omega)
  have w2 : IntKind.i64.wrap (ct + 1) = ct + 1 := wrap_in (by omega) (by omega)
  rw [w1, w2]
  refine bothF (by simp; omega) ⟨?_, ?_⟩
  · refine ⟨fun he => ?_, fun he => ⟨fun ht => ?_, fun ht => ⟨fun hc => ?_, fun hc => ?_⟩⟩⟩
    · exact ⟨_, _, .inl ⟨9, rfl, rfl, rfl⟩, rfl, rfl⟩
    · exact ⟨_, _, .inl ⟨7, rfl, rfl, rfl⟩, rfl, rfl⟩
    · exact ⟨_, _, .inl ⟨8, rfl, rfl, rfl⟩, rfl, rfl⟩
    · refine ⟨by simp; omega, by simp; omega, by simp [h7]; omega, _, _, .inr ⟨⟨he, by simpa using ht, by simpa using hc⟩, rfl, ?_, rfl⟩, rfl, rfl⟩
      simp [snR]
  · exact ⟨_, _, .inl ⟨1, rfl, rfl, rfl⟩, rfl, rfl⟩
theorem snR_pfs {n : Nat} {fr ct : Int} {rc : List AV} (k t c h b p v : Int) (hp : pfs rc = true) : pfs (snR n fr ct rc k t c h b p v) = true := by
  unfold snR splice
  exact pfs_app (pfs_app (pfs_take _ hp) rfl) (pfs_drop _ hp)
def sendTr : Tr1 := fun xs σ s K => match xs with
  | [.ptr 3 0, .agg [.int .i64 k, .int .i64 t, .int .i64 c, .int .u8 h, .int .i64 b, .int .i64 p, .int .u8 v]] => match σ.get 3, σ.get 2 with
    | .cells 42 [.slice 2 0 n (some n'), .int .i64 fr, .int .i64 ct, .int .i64 mk, .bool en], .cells 33 rc => need (lnOk n n' fr ct rc) ∧
        bothK s (fun s => ∀ m : Nat, K (.int .i64 (Int.ofNat (Nat.succ m))) ((σ.set 2 (.cells 33 rc)).set 3 (.cells 42 [.slice 2 0 n (some n), .int .i64 fr, .int .i64 ct, .int .i64 mk, .bool en])) s)
          (fun s => (en = false ∧ ¬ t < mk ∧ ¬ ct = (n : Int)) → K (.int .i64 0) ((σ.set 2 (.cells 33 (snR n fr ct rc k t c h b p v))).set 3 (.cells 42 [.slice 2 0 n (some n), .int .i64 fr, .int .i64 (ct + 1), .int .i64 t, .bool (decide (k = 5))])) s)
    | _, _ => False
  | _ => False
theorem sendTr_ok : TrOk Try.prog 8 sendTr := by
  intro xs σ s K e
  unfold sendTr at e
  split at e
  · split at e
    · rename_i k t c h b p v _ _ n n' fr ct mk en rc g3 g2
      obtain ⟨hk, hq⟩ := e
      obtain ⟨⟨s1, q1⟩, ⟨s2, q2⟩⟩ := bothK_ok hq
      have hn : n = n' := hk.1.symm
      subst hn
      refine (SC.frameL (b := 2) (R := 3) (c1 := [.slice 2 0 n (some n), .int .i64 fr, .int .i64 ct, .int .i64 mk, .bool en]) (c0 := [.slice 0 0 n (some n), .int .i64 fr, .int .i64 ct, .int .i64 mk, .bool en]) (args0 := [.ptr 1 0, .agg [.int .i64 k, .int .i64 t, .int .i64 c, .int .u8 h, .int .i64 b, .int .i64 p, .int .u8 v]]) g2 g3 (by omega) hk.2.2.2.2.2.2.2.2.1 rfl rfl ?_ (send_sc mk en hk k t c h b p v)).mono ?_
      · rintro x rs ls (⟨m, rfl, rfl, rfl⟩ | ⟨_, rfl, rfl, rfl⟩)
        · exact ⟨hk.2.2.2.2.2.2.2.2.1, rfl, _, rfl⟩
        · exact ⟨snR_pfs _ _ _ _ _ _ _ hk.2.2.2.2.2.2.2.2.1, rfl, _, rfl⟩
      · rintro x τ ⟨rs, ls, ls', ⟨m, rfl, rfl, rfl⟩ | ⟨hc, rfl, rfl, rfl⟩, hl, rfl⟩
        · cases hl
          exact ⟨s1, q1 m⟩
        · cases hl
          exact ⟨s2, q2 hc⟩
    · exact e.elim
  · exact e.elim
def PqT (n : Nat) (fr ct mk : Int) (en : Bool) (rc : List AV) (x : AV) (rs ls : List AV) : Prop :=
  (ct = 0 ∧ x = .tup [.agg [.int .i64 0, .int .i64 0, .int .i64 0, .int .u8 0, .int .i64 0, .int .i64 0, .int .u8 0], .int .i64 6] ∧ rs = rc ∧ ls = [.slice 0 0 n (some n), .int .i64 fr, .int .i64 ct, .int .i64 mk, .bool en]) ∨
  (¬ ct = 0 ∧ x = .tup [.agg [.int .i64 (qI rc fr 0), .int .i64 (qI rc fr 1), .int .i64 (qI rc fr 2), .int .u8 (qI rc fr 3), .int .i64 (qI rc fr 4), .int .i64 (qI rc fr 5), .int .u8 (qI rc fr 6)], .int .i64 0] ∧ rs = rc ∧ ls = [.slice 0 0 n (some n), .int .i64 (nxF n fr), .int .i64 (ct - 1), .int .i64 mk, .bool en])
theorem take_sc {n : Nat} {fr ct : Int} (mk : Int) (en : Bool) {rc : List AV} (hk : lnOk n n fr ct rc) : SC Try.prog 10 [.ptr 1 0] ⟨2, [(1, .cells 42 [.slice 0 0 n (some n), .int .i64 fr, .int .i64 ct, .int .i64 mk, .bool en]), (0, .cells 33 rc)]⟩
    (fun x τ => ∃ rs ls, PqT n fr ct mk en rc x rs ls ∧ τ.get 0 = .cells 33 rs ∧ τ.get 1 = .cells 42 ls) := by
  obtain ⟨_, h1, h2, h3, h4, h5, h6, h7, h8, h9⟩ := hk
  obtain ⟨i0, i1, i2, i3, i4, i5, i6⟩ := h9 fr.toNat (by omega)
  refine (funP_sound XRo_ok (f := 10) (by kernel_rfl) (fun p _ L hL => by cases hL) _ _ tak_scr _ ((tak_vc n fr ct mk en rc (fun x τ => ∃ rs ls, PqT n fr ct mk en rc x rs ls ∧ τ.get 0 = .cells 33 rs ∧ τ.get 1 = .cells 42 ls)).mpr ?_)).mono (fun v σ ⟨s, q⟩ => q)
  unfold tak_VC
  have n1 : (n : Int) > 0 := by omega
  have n0 : ¬ (n : Int) = 0 := by omega
  have n2 : ¬ n = 0 := by omega
  have w1 : IntKind.i64.wrap (fr + 1) = fr + 1 := wrap_in (by omega) (by omega)
  have w2 : IntKind.i64.wrap (ct - 1) = ct - 1 := wrap_in (by omega) (by omega)
  rw [w1, w2]
  have p : ∀ j, 0 + fr.toNat * 7 + j = fr.toNat * 7 + j := fun j => by omega
  simp only [Nat.add_assoc, Nat.zero_add, Nat.reduceAdd] at *
  refine bothF (by simpa using n1) ⟨by simpa using n1, by simpa using n1, by simpa using n1, by simpa using n1, by simpa using n1, by simpa using n1, fun hc => ?_, fun hc => ?_⟩
  · have hc : ct = 0 := by simpa using hc
    exact ⟨_, _, .inl ⟨hc, rfl, rfl, rfl⟩, rfl, rfl⟩
  · have hc : ¬ ct = 0 := by simpa using hc
    refine ⟨by simp; omega, by simp [h7]; omega, i0, i1, i2, i3, i4, i5, i6, by simpa using n2, _, _, .inr ⟨hc, rfl, rfl, rfl⟩, rfl, rfl⟩
def takeTr : Tr1 := fun xs σ s K => match xs with
  | [.ptr 3 0] => match σ.get 3, σ.get 2 with
    | .cells 42 [.slice 2 0 n (some n'), .int .i64 fr, .int .i64 ct, .int .i64 mk, .bool en], .cells 33 rc => need (lnOk n n' fr ct rc) ∧
        bothK s (fun s => (ct = 0) → K (.tup [.agg [.int .i64 0, .int .i64 0, .int .i64 0, .int .u8 0, .int .i64 0, .int .i64 0, .int .u8 0], .int .i64 6]) ((σ.set 2 (.cells 33 rc)).set 3 (.cells 42 [.slice 2 0 n (some n), .int .i64 fr, .int .i64 ct, .int .i64 mk, .bool en])) s)
          (fun s => (¬ ct = 0) → K (.tup [.agg [.int .i64 (qI rc fr 0), .int .i64 (qI rc fr 1), .int .i64 (qI rc fr 2), .int .u8 (qI rc fr 3), .int .i64 (qI rc fr 4), .int .i64 (qI rc fr 5), .int .u8 (qI rc fr 6)], .int .i64 0]) ((σ.set 2 (.cells 33 rc)).set 3 (.cells 42 [.slice 2 0 n (some n), .int .i64 (nxF n fr), .int .i64 (ct - 1), .int .i64 mk, .bool en])) s)
    | _, _ => False
  | _ => False
theorem takeTr_ok : TrOk Try.prog 10 takeTr := by
  intro xs σ s K e
  unfold takeTr at e
  split at e
  · split at e
    · rename_i _ _ n n' fr ct mk en rc g3 g2
      obtain ⟨hk, hq⟩ := e
      obtain ⟨⟨s1, q1⟩, ⟨s2, q2⟩⟩ := bothK_ok hq
      have hn : n = n' := hk.1.symm
      subst hn
      refine (SC.frameL (b := 2) (R := 3) (c1 := [.slice 2 0 n (some n), .int .i64 fr, .int .i64 ct, .int .i64 mk, .bool en]) (c0 := [.slice 0 0 n (some n), .int .i64 fr, .int .i64 ct, .int .i64 mk, .bool en]) (args0 := [.ptr 1 0]) g2 g3 (by omega) hk.2.2.2.2.2.2.2.2.1 rfl rfl ?_ (take_sc mk en hk)).mono ?_
      · rintro x rs ls (⟨_, rfl, rfl, rfl⟩ | ⟨_, rfl, rfl, rfl⟩)
        · exact ⟨hk.2.2.2.2.2.2.2.2.1, rfl, _, rfl⟩
        · exact ⟨hk.2.2.2.2.2.2.2.2.1, rfl, _, rfl⟩
      · rintro x τ ⟨rs, ls, ls', ⟨hc, rfl, rfl, rfl⟩ | ⟨hc, rfl, rfl, rfl⟩, hl, rfl⟩
        · cases hl
          exact ⟨s1, q1 hc⟩
        · cases hl
          exact ⟨s2, q2 hc⟩
    · exact e.elim
  · exact e.elim
/-- The round's setting. -/
def okRd : List Nat := [7, 11, 17]
theorem okRd_ok : okFunsX Try.prog okRd = true := by kernel_rfl
noncomputable def XRd : Cx := ⟨Try.prog, inl Try.prog (purO []) [] 20 (withT 8 sendTr (withT 10 takeTr (withT 9 ckTr (purT []))))  okRd 3, purO [], [], 20, lookL []⟩
theorem XRd_ok : CxOk XRd := ⟨inl_ok (purO_ok PurOk.nil) mixedlives (withT_ok sendTr_ok (withT_ok takeTr_ok (withT_ok ckTr_ok (purT_ok PurOk.nil)))) okRd_ok 3, purO_ok PurOk.nil, mixedlives⟩
end Go.Proofs.Ytfamikdibjhnpaa.V
