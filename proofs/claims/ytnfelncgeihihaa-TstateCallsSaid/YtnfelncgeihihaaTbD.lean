/- tstate: times, spots, bytes (part 4): numbers told and read, called in any memory. tstate: times, spots, bytes (part 5): states of the loop that reads a screen. -/
import Derived.Test.YtnfelncgeihihaaTbB
namespace Go.Proofs.Ytnfelncgeihihaa.V
open Go Go.Proofs
set_option maxRecDepth 100000
set_option maxHeartbeats 4000000
set_option linter.unusedSimpArgs false
set_option linter.unusedVariables false
theorem pfs_enc : ∀ {k : IntKind} {ns : List Int}, pfs (encI k ns) = true
  | k, [] => by simp [encI]
  | k, z :: r => by
    have := pfs_enc (k := k) (ns := r)
    unfold encI at this ⊢
    simp [this]
theorem pfs_app : ∀ {a b : List AV}, pfs a = true → pfs b = true → pfs (a ++ b) = true
  | [], b, _, h => h
  | v :: r, b, h, h' => by
    simp only [List.cons_append, pfs, Bool.and_eq_true] at h ⊢
    exact ⟨h.1, pfs_app h.2 h'⟩
theorem numB_len (x : Int) : 0 < (numB x).length ∧ (numB x).length ≤ 3 := by unfold numB; split <;> (try split) <;> simp
def apB (nb : Int → List Int) (x : Int) : List Int := nb x
def numTr (nb : Int → List Int) : Tr1 := fun xs σ s K => match xs with
  | [.nilslice, .int .u64 x] => need (0 ≤ x ∧ x ≤ 1000) ∧ K (.slice σ.nx 0 (apB nb x).length none) (σ.push (.opn 5 1 (encI .u8 (apB nb x)))) s
  | [.slice b 0 n none, .int .u64 x] => match σ.get b with
    | .opn _ _ cs => need (0 < n ∧ n = cs.length ∧ n ≤ 100 ∧ b < σ.nx ∧ pfs cs = true ∧ 0 ≤ x ∧ x ≤ 1000) ∧ K (.slice σ.nx 0 (n + (apB nb x).length) none) (σ.push (.opn 5 1 (cs ++ encI .u8 (apB nb x)))) s
    | _ => False
  | _ => False
theorem numTr_ok : TrOk Try.prog 75 (numTr numB) := by
  intro xs σ s K h
  unfold numTr at h
  split at h
  · rename_i x
    obtain ⟨⟨h0, h1⟩, hk⟩ := h
    refine (SC.frameG (σ0 := ⟨0, []⟩) (σ := σ) (k := nuK x) (u := .slice σ.nx 0 (numB x).length none) (fun _ => none) (fun _ => none) (fun i hi => absurd hi (Nat.not_lt_zero i)) (fun i => rfl) (fun x c h => by cases h) rfl pfs_enc (by simp [AV.ren, oneN]) (numN_sc h0 h1)).mono ?_
    rintro v τ ⟨rfl, rfl⟩
    exact ⟨s, hk⟩
  · rename_i b n x
    split at h
    · rename_i e z cs hb
      obtain ⟨⟨hn, hc, hm, hbx, hpf, h0, h1⟩, hk⟩ := h
      refine (SC.frameG (args0 := [.slice 0 0 n none, .int .u64 x]) (σ0 := ⟨1, [(0, .ro cs)]⟩) (σ := σ) (k := nuJ x) (u := .slice σ.nx 0 (n + (numB x).length) none) (fun i => if i = 0 then some b else none) (fun x => if x = b then some 0 else none) ?_ ?_ ?_ (by simp [renL, AV.ren]) (pfs_app hpf pfs_enc) (by simp [AV.ren, oneN]) (numS_sc hn hc hm h0 h1)).mono ?_
      · intro i hi
        have : i = 0 := by have : i < 1 := hi; omega
        subst this
        exact ⟨b, cs, rfl, hbx, by rw [hb]; rfl, rfl, hpf⟩
      · intro i
        by_cases e : i = 0
        · subst e; rfl
        · simp [AH.get, lookH, Ne.symm e, AObj.wr]
      · intro y c hy
        split at hy
        · rename_i e; subst e; cases hy; exact ⟨Nat.zero_lt_one, by simp⟩
        · cases hy
      · rintro v τ ⟨rfl, rfl⟩
        exact ⟨s, hk⟩
    · exact h.elim
  · exact h.elim
theorem clone_sc {n : Nat} {cs : List AV} (hn : 0 < n) (hc : n = cs.length) (hm : n ≤ 100) :
    SC Try.prog 84 [.slice 0 0 n none] ⟨1, [(0, .ro cs)]⟩ (fun v τ => v = .slice 2 0 n none ∧ τ.get 2 = .opn 5 1 cs) := by
  refine sc_of_vcT XNu_ok (by kernel_rfl) (fun p _ L hL => by cases hL) (clS_vc n cs _) ?_
  have ht : List.take (n * 1) (List.drop 0 cs) = cs := by rw [Nat.mul_one, hc]; simp
  unfold clS_VC
  rw [ht]
  simp [hn, ← hc, AH.get, lookH]
  omega
def cloneTr : Tr1 := fun xs σ s K => match xs with
  | [.slice b 0 n none] => match σ.get b with
    | .opn _ _ cs => need (0 < n ∧ n = cs.length ∧ n ≤ 100 ∧ b < σ.nx ∧ pfs cs = true) ∧ K (.slice σ.nx 0 n none) (σ.push (.opn 5 1 cs)) s
    | .ro cs => need (0 < n ∧ n = cs.length ∧ n ≤ 100 ∧ b < σ.nx ∧ pfs cs = true) ∧ K (.slice σ.nx 0 n none) (σ.push (.opn 5 1 cs)) s
    | _ => False
  | _ => False
theorem clone_any {n b : Nat} {cs : List AV} {σ : AH} (hb : (σ.get b).cs? = some cs) (hn : 0 < n) (hc : n = cs.length) (hm : n ≤ 100) (hbx : b < σ.nx) (hpf : pfs cs = true) :
    SC Try.prog 84 [.slice b 0 n none] σ (fun v τ => v = .slice σ.nx 0 n none ∧ τ = σ.push (.opn 5 1 cs)) := by
  refine SC.frameG (args0 := [.slice 0 0 n none]) (σ0 := ⟨1, [(0, .ro cs)]⟩) (σ := σ) (k := 2) (u := .slice σ.nx 0 n none) (fun i => if i = 0 then some b else none) (fun x => if x = b then some 0 else none) ?_ ?_ ?_ (by simp [renL, AV.ren]) hpf (by simp [AV.ren, oneN]) (clone_sc hn hc hm)
  · intro i hi
    have : i = 0 := by have : i < 1 := hi; omega
    subst this
    exact ⟨b, cs, rfl, hbx, hb, rfl, hpf⟩
  · intro i
    by_cases e : i = 0
    · subst e; rfl
    · simp [AH.get, lookH, Ne.symm e, AObj.wr]
  · intro y c hy
    split at hy
    · rename_i e; subst e; cases hy; exact ⟨Nat.zero_lt_one, by simp⟩
    · cases hy
theorem cloneTr_ok : TrOk Try.prog 84 cloneTr := by
  intro xs σ s K h
  unfold cloneTr at h
  split at h
  · rename_i b n
    split at h
    · rename_i e z cs hb
      obtain ⟨⟨hn, hc, hm, hbx, hpf⟩, hk⟩ := h
      refine (clone_any (by rw [hb]; rfl) hn hc hm hbx hpf).mono ?_
      rintro v τ ⟨rfl, rfl⟩
      exact ⟨s, hk⟩
    · rename_i cs hb
      obtain ⟨⟨hn, hc, hm, hbx, hpf⟩, hk⟩ := h
      refine (clone_any (by rw [hb]; rfl) hn hc hm hbx hpf).mono ?_
      rintro v τ ⟨rfl, rfl⟩
      exact ⟨s, hk⟩
    · exact h.elim
  · exact h.elim
/-- From a place on stand a number's bytes. -/
def rdOk (cs : List AV) (o n : Nat) (x : Int) : Prop := 0 ≤ x ∧ x ≤ 1000 ∧ pfs cs = true ∧ (numB x).length ≤ n ∧ o + n = cs.length ∧ n ≤ 100 ∧ ∀ j, j < (numB x).length → cs.getD (o + j) (.tup []) = .int .u8 ((numB x).getD j 0)
theorem toI_i (k : IntKind) (n : Int) : AV.toI (.int k n) = n := rfl
theorem cnt_sc {o n : Nat} {cs : List AV} {x : Int} (h : rdOk cs o n x) :
    SC Try.prog 77 [.ptr 1 0, .int .i64 1000] ⟨2, [(1, .cells 105 [.slice 0 o n none, .int .i64 0, .bool true]), (0, .opn 5 1 cs)]⟩
      (fun v τ => v = .int .i64 x ∧ τ.get 0 = .opn 5 1 cs ∧ τ.get 1 = .cells 105 [.slice 0 (o + (numB x).length) (n - (numB x).length) none, .int .i64 0, .bool true]) := by
  obtain ⟨x0, x1, hpf, hle, hlen, hn, hg⟩ := h
  refine sc_of_vcT XRd_ok (by kernel_rfl) (fun p _ L hL => by cases hL) (cnt_vc o n cs _) ?_
  unfold cnt_VC
  by_cases a : x ≤ 247
  · have hb : numB x = [x] := by simp [numB, a]
    rw [hb] at hle hg ⊢
    have g0 : cs.getD (o + 0) (.tup []) = .int .u8 x := hg 0 (by simp)
    have hn1 : 1 ≤ n := by simpa using hle
    have n0 : ¬ ((n : Int) = 0) := by omega
    have n1 : (0 : Int) < (n : Int) := by omega
    have n2 : 0 < n := by omega
    have n3 : o < cs.length := by omega
    have n4 : (1 : Int) ≤ (n : Int) := by omega
    rw [g0]
    repeat rw [toI_i]
    rw [u64w x0 (by omega), wrap_in (n := x) (by omega) (by omega)]
    have x2 : ¬ x > 1000 := by omega
    simp [n0, n1, n2, n3, n4, a, x2, AV.isI, AH.get, lookH]
    omega
  · by_cases d : x ≤ 255
    · have hb : numB x = [248, x] := by simp [numB, a, d]
      rw [hb] at hle hg ⊢
      have g0 : cs.getD (o + 0) (.tup []) = .int .u8 248 := hg 0 (by simp)
      have g1 : cs.getD (o + 1) (.tup []) = .int .u8 x := hg 1 (by simp)
      have hn1 : 2 ≤ n := by simpa using hle
      rw [g0]
      repeat rw [toI_i]
      rw [show IntKind.i64.wrap (IntKind.i64.wrap (248 : Int) - 247) = 1 by decide +kernel]
      rw [show IntKind.i64.wrap ((1 : Int) - 1) = 0 by decide +kernel]
      rw [show IntKind.i64.wrap ((1 : Int) + 1) = 2 by decide +kernel]
      rw [show Int.toNat 1 * 1 = 1 from rfl, g1]
      repeat rw [toI_i]
      rw [u64w x0 (by omega)]
      have hor : bits .or .u64 0 x = x := by
        have := u64_or 0 x (by omega) (by omega) x0 (by omega)
        rw [this]; simp; omega
      rw [hor, wrap_in (n := x) (by omega) (by omega)]
      have n0 : ¬ ((n : Int) = 0) := by omega
      have n1 : (0 : Int) < (n : Int) := by omega
      have n2 : 0 < n := by omega
      have n3 : o < cs.length := by omega
      have n4 : (2 : Int) ≤ (n : Int) := by omega
      have n5 : ¬ ((n : Int) < 2) := by omega
      have n6 : (1 : Int) < (n : Int) := by omega
      have n7 : o + 1 < cs.length := by omega
      have x2 : ¬ x > 1000 := by omega
      have x3 : ¬ x = 0 := by omega
      simp [n0, n1, n2, n3, n4, n5, n6, n7, a, x2, x3, AV.isI, AH.get, lookH]
      omega
    · have hb : numB x = [249, x % 256, x / 256] := by simp [numB, a, d]
      rw [hb] at hle hg ⊢
      have g0 : cs.getD (o + 0) (.tup []) = .int .u8 249 := hg 0 (by simp)
      have g1 : cs.getD (o + 1) (.tup []) = .int .u8 (x % 256) := hg 1 (by simp)
      have g2 : cs.getD (o + 2) (.tup []) = .int .u8 (x / 256) := hg 2 (by simp)
      have hn1 : 3 ≤ n := by simpa using hle
      rw [g0]
      repeat rw [toI_i]
      rw [show IntKind.i64.wrap (IntKind.i64.wrap (249 : Int) - 247) = 2 by decide +kernel]
      rw [show IntKind.i64.wrap ((2 : Int) - 1) = 1 by decide +kernel]
      rw [show IntKind.i64.wrap ((1 : Int) - 1) = 0 by decide +kernel]
      rw [show IntKind.i64.wrap ((1 : Int) + 2) = 3 by decide +kernel]
      rw [show Int.toNat 2 * 1 = 2 from rfl, show Int.toNat 1 * 1 = 1 from rfl, g1, g2]
      repeat rw [toI_i]
      have hhi : 0 ≤ x / 256 ∧ x / 256 ≤ 3 := by omega
      have hlo : 0 ≤ x % 256 ∧ x % 256 < 256 := by omega
      rw [u64w (x := x / 256) hhi.1 (by omega), u64w (x := x % 256) hlo.1 (by omega)]
      have hor0 : bits .or .u64 0 (x / 256) = x / 256 := by
        have := u64_or 0 (x / 256) (by omega) (by omega) hhi.1 (by omega)
        rw [this]; simp; omega
      rw [hor0, u64w (x := x / 256 * 256) (by omega) (by omega)]
      have hor : bits .or .u64 (x / 256 * 256) (x % 256) = x := by
        rw [u64_or _ _ (by omega) (by omega) hlo.1 (by omega)]
        have e := Nat.two_pow_add_eq_or_of_lt (i := 8) (b := (x % 256).toNat) (by omega) (x / 256).toNat
        have e1 : (x / 256 * 256).toNat = 2 ^ 8 * (x / 256).toNat := by omega
        rw [e1, ← e]
        omega
      rw [hor, wrap_in (n := x) (by omega) (by omega)]
      have n0 : ¬ ((n : Int) = 0) := by omega
      have n1 : (0 : Int) < (n : Int) := by omega
      have n2 : 0 < n := by omega
      have n3 : o < cs.length := by omega
      have n4 : (3 : Int) ≤ (n : Int) := by omega
      have n5 : ¬ ((n : Int) < 3) := by omega
      have n6 : (1 : Int) < (n : Int) := by omega
      have n7 : o + 1 < cs.length := by omega
      have n8 : (2 : Int) < (n : Int) := by omega
      have n9 : o + 2 < cs.length := by omega
      have x2 : ¬ x > 1000 := by omega
      have x3 : ¬ x / 256 = 0 := by omega
      simp [n0, n1, n2, n3, n4, n5, n6, n7, n8, n9, a, x2, x3, AV.isI, AH.get, lookH]
      omega
def cntTr (cs : List AV) (o n o' n' : Nat) (x : Int) : Tr1 := fun xs σ s K =>
  need (xs = [.ptr 3 0, .int .i64 1000]) ∧ need (σ.get 3 = .cells 105 [.slice 2 o n none, .int .i64 0, .bool true]) ∧ need (σ.get 2 = .opn 5 1 cs) ∧ need (rdOk cs o n x ∧ o' = o + (numB x).length ∧ n' = n - (numB x).length) ∧
    K (.int .i64 x) (σ.set 3 (.cells 105 [.slice 2 o' n' none, .int .i64 0, .bool true])) s
theorem cntTr_ok (cs : List AV) (o n o' n' : Nat) (x : Int) : TrOk Try.prog 77 (cntTr cs o n o' n' x) := by
  intro xs σ s K h
  obtain ⟨hx, h3, h2, ⟨hok, ho, hn⟩, hk⟩ := h
  have hx : xs = [.ptr 3 0, .int .i64 1000] := hx
  subst hx ho hn
  refine (SC.frameS (b := 2) (R := 3) (c0 := [.slice 0 o n none, .int .i64 0, .bool true]) (c2 := [.slice 0 (o + (numB x).length) (n - (numB x).length) none, .int .i64 0, .bool true]) (args0 := [.ptr 1 0, .int .i64 1000]) h2 h3 (by omega) hok.2.2.1 rfl rfl rfl rfl (cnt_sc hok)).mono ?_
  rintro v τ ⟨rfl, rfl⟩
  exact ⟨s, hk⟩
end Go.Proofs.Ytnfelncgeihihaa.V
namespace Go.Proofs.Ytnfelncgeihihaa.V
open Go Go.Proofs
set_option maxRecDepth 100000
set_option linter.unusedSimpArgs false
set_option linter.unusedVariables false
noncomputable def withT (f : Nat) (T : Tr1) (base : Trs) : Trs := fun g => if Nat.beq g f = true then some T else base g
theorem withT_ok {P : Program} {f : Nat} {T : Tr1} {base : Trs} (h : TrOk P f T) (hb : TrsOk P base) : TrsOk P (withT f T base) := by
  intro g T' e
  unfold withT at e
  split at e
  · rename_i hk
    cases e
    rw [Nat.eq_of_beq_eq_true hk]
    exact h
  · exact hb g T' e
noncomputable def XBy (nb : Int → List Int) : Cx := ⟨Try.prog, withT 75 (numTr nb) (purT purTb), purO purTb, purTb.map (·.1), 20, lookL []⟩
theorem XBy_ok : CxOk (XBy numB) := ⟨withT_ok numTr_ok (purT_ok purTb_ok), purO_ok purTb_ok, mixed⟩
/-- Where the i-th number stands; how many bytes are left there. -/
def oA (x : Nat → Int) : Nat → Nat
  | 0 => 0
  | i + 1 => oA x i + (numB (x i)).length
def nA (x : Nat → Int) (n : Nat) : Nat → Nat
  | 0 => n
  | i + 1 => nA x n i - (numB (x i)).length
def sC (x : Nat → Int) (i : Nat) : List AV := (List.range 7).map fun j => .int .i64 (if j < i then x j else 0)
def rdS (x : Nat → Int) (o n : Nat) (cs : List AV) (i : Nat) : AF × AH :=
  (⟨38, [(2, .ptr 1 0), (4, .ptr 3 0), (5, .ptr 4 0), (17, .slice 5 0 7 (some 7)), (18, .int .i64 7), (19, .int .i64 (i : Nat))]⟩,
   ⟨6, [(5, .cells 95 [.ptr 4 0, .ptr 4 1, .ptr 4 2, .ptr 4 3, .ptr 4 4, .ptr 4 5, .ptr 4 6]), (4, .cells 23 (sC x i)), (3, .cells 105 [.slice 2 o n none, .int .i64 0, .bool true]), (2, .opn 5 1 cs), (1, .cells 23 (sC x 0)), (0, .ro cs)]⟩)
def rdT (x : Nat → Int) (n : Nat) (cs : List AV) (i : Nat) : AF × AH := rdS x (oA x i) (nA x n i) cs i
noncomputable def XCt (cs : List AV) (o n o' n' : Nat) (x : Int) : Cx := ⟨Try.prog, withT 77 (cntTr cs o n o' n' x) (purT []), purO [], [], 20, lookL []⟩
theorem XCt_ok (cs : List AV) (o n o' n' : Nat) (x : Int) : CxOk (XCt cs o n o' n' x) := ⟨withT_ok (cntTr_ok cs o n o' n' x) (purT_ok PurOk.nil), purO_ok PurOk.nil, mixed⟩
end Go.Proofs.Ytnfelncgeihihaa.V
