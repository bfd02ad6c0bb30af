/- link: what is sent and taken (part 4): messages, the ring, and what holds from round to round; no program in sight. -/
import Derived.Test.YtfamikdibjhnpaaLkE
namespace Go.Proofs.Ytfamikdibjhnpaa.V
open Go Go.Proofs
set_option maxRecDepth 100000
set_option linter.unusedSimpArgs false
set_option linter.unusedVariables false
structure Mg where
  k : Int
  t : Int
  c : Int
  h : Int
  b : Int
  p : Int
  v : Int
instance : Inhabited Mg := ⟨⟨0, 0, 0, 0, 0, 0, 0⟩⟩
def Mg.cells (q : Mg) : List AV := [.int .i64 q.k, .int .i64 q.t, .int .i64 q.c, .int .u8 q.h, .int .i64 q.b, .int .i64 q.p, .int .u8 q.v]
def mF (ms : List Mg) : List AV := (ms.map Mg.cells).flatten
theorem mF_len (ms : List Mg) : (mF ms).length = ms.length * 7 := by
  unfold mF
  induction ms with
  | nil => rfl
  | cons q r ih => simp only [List.map_cons, List.flatten_cons, List.length_append, List.length_cons, ih]; simp [Mg.cells]; omega
theorem pfs_mF : ∀ {ms : List Mg}, pfs (mF ms) = true
  | [] => rfl
  | q :: r => pfs_app (a := q.cells) rfl (pfs_mF (ms := r))
theorem mF_app (a b : List Mg) : mF (a ++ b) = mF a ++ mF b := by simp [mF]
theorem gD_l {α : Type} {a b : List α} {i : Nat} {d : α} (h : i < a.length) : (a ++ b).getD i d = a.getD i d := by
  rw [List.getD_eq_getElem?_getD, List.getElem?_append_left h, List.getD_eq_getElem?_getD]
theorem gD_r {α : Type} {a b : List α} {i : Nat} {d : α} (h : a.length ≤ i) : (a ++ b).getD i d = b.getD (i - a.length) d := by
  rw [List.getD_eq_getElem?_getD, List.getElem?_append_right h, List.getD_eq_getElem?_getD]
theorem mF_get : ∀ {ms : List Mg} {i j : Nat}, i < ms.length → j < 7 → (mF ms).getD (i * 7 + j) (.tup []) = ((ms.getD i default).cells).getD j (.tup [])
  | [], i, j, h, _ => by cases h
  | q :: r, 0, j, h, hj => by
    have : mF (q :: r) = q.cells ++ mF r := rfl
    rw [this, gD_l (by simp [Mg.cells]; omega)]
    simp
  | q :: r, i + 1, j, h, hj => by
    have : mF (q :: r) = q.cells ++ mF r := rfl
    rw [this, gD_r (by simp [Mg.cells]; omega)]
    have e : (i + 1) * 7 + j - q.cells.length = i * 7 + j := by simp [Mg.cells]; omega
    rw [e, mF_get (by simpa using h) hj]
    simp
section
variable {ms : List Mg} {i : Nat}
theorem m0 (h : i < ms.length) : (mF ms).getD (0 + Int.toNat (i : Int) * 7) (.tup []) = .int .i64 (ms.getD i default).k := by
  rw [Nat.zero_add, Int.toNat_natCast]; exact mF_get (j := 0) h (by omega)
theorem m0' (h : i < ms.length) : (mF ms).getD (0 + Int.toNat (i : Int) * 7 + 0) (.tup []) = .int .i64 (ms.getD i default).k := m0 h
theorem m1 (h : i < ms.length) : (mF ms).getD (0 + Int.toNat (i : Int) * 7 + 1) (.tup []) = .int .i64 (ms.getD i default).t := by
  rw [Nat.zero_add, Int.toNat_natCast]; exact mF_get (j := 1) h (by omega)
theorem m2 (h : i < ms.length) : (mF ms).getD (0 + Int.toNat (i : Int) * 7 + 1 + 1) (.tup []) = .int .i64 (ms.getD i default).c := by
  rw [Nat.zero_add, Int.toNat_natCast]; exact mF_get (j := 2) h (by omega)
theorem m3 (h : i < ms.length) : (mF ms).getD (0 + Int.toNat (i : Int) * 7 + 1 + 1 + 1) (.tup []) = .int .u8 (ms.getD i default).h := by
  rw [Nat.zero_add, Int.toNat_natCast]; exact mF_get (j := 3) h (by omega)
theorem m4 (h : i < ms.length) : (mF ms).getD (0 + Int.toNat (i : Int) * 7 + 1 + 1 + 1 + 1) (.tup []) = .int .i64 (ms.getD i default).b := by
  rw [Nat.zero_add, Int.toNat_natCast]; exact mF_get (j := 4) h (by omega)
theorem m5 (h : i < ms.length) : (mF ms).getD (0 + Int.toNat (i : Int) * 7 + 1 + 1 + 1 + 1 + 1) (.tup []) = .int .i64 (ms.getD i default).p := by
  rw [Nat.zero_add, Int.toNat_natCast]; exact mF_get (j := 5) h (by omega)
theorem m6 (h : i < ms.length) : (mF ms).getD (0 + Int.toNat (i : Int) * 7 + 1 + 1 + 1 + 1 + 1 + 1) (.tup []) = .int .u8 (ms.getD i default).v := by
  rw [Nat.zero_add, Int.toNat_natCast]; exact mF_get (j := 6) h (by omega)
end
/-- A message of the ring. -/
def rowAt (rc : List AV) (i : Nat) : Mg := ⟨AV.toI (rc.getD (i * 7 + 0) (.tup [])), AV.toI (rc.getD (i * 7 + 1) (.tup [])), AV.toI (rc.getD (i * 7 + 2) (.tup [])), AV.toI (rc.getD (i * 7 + 3) (.tup [])), AV.toI (rc.getD (i * 7 + 4) (.tup [])), AV.toI (rc.getD (i * 7 + 5) (.tup [])), AV.toI (rc.getD (i * 7 + 6) (.tup []))⟩
theorem splice_at {rc : List AV} {q : List AV} {n k i x : Nat} (hl : rc.length = n * 7) (hq : q.length = 7) (hk : k < n) (hi : i < n) (hx : x < 7) :
    (splice rc (k * 7) q).getD (i * 7 + x) (.tup []) = if i = k then q.getD x (.tup []) else rc.getD (i * 7 + x) (.tup []) := by
  have e1 : k * 7 ≤ rc.length := by omega
  have tl : (rc.take (k * 7)).length = k * 7 := by simp; omega
  unfold splice
  simp only [List.getD_eq_getElem?_getD]
  split
  · rename_i hik
    subst hik
    rw [List.append_assoc, List.getElem?_append_right (by omega), tl, Nat.add_sub_cancel_left, List.getElem?_append_left (by omega)]
  · rename_i hik
    rcases Nat.lt_or_gt_of_ne hik with hlt | hgt
    · rw [List.append_assoc, List.getElem?_append_left (by omega), List.getElem?_take_of_lt (by omega)]
    · rw [List.getElem?_append_right (by simp; omega), List.getElem?_drop]
      congr 2
      simp
      omega
/-- What changes from round to round: what was sent, what was taken, and the link. -/
structure LkX where
  il : List Mg
  ol : List Mg
  rc : List AV
  fr : Int
  mt : Int
  en : Bool
def LkX.ct (x : LkX) : Int := ((x.il.length - x.ol.length : Nat) : Int)
structure Inv (n b : Nat) (x : LkX) : Prop where
  n0 : 0 < n
  n9 : n ≤ 9
  ib : x.il.length ≤ b
  ol : x.ol = x.il.take x.ol.length
  ct : x.il.length - x.ol.length ≤ n
  f0 : 0 ≤ x.fr
  fn : x.fr < (n : Int)
  ring : Ring n x.rc
  row : ∀ j, j < x.il.length - x.ol.length → rowAt x.rc ((x.fr.toNat + j) % n) = x.il.getD (x.ol.length + j) default
  last : 0 < x.il.length → x.mt = (x.il.getD (x.il.length - 1) default).t ∧ x.en = decide ((x.il.getD (x.il.length - 1) default).k = 5)
theorem Inv.ole {n b : Nat} {x : LkX} (h : Inv n b x) : x.ol.length ≤ x.il.length := by
  have := congrArg List.length h.ol
  simp only [List.length_take] at this
  omega
theorem Inv.le {n b b' : Nat} {x : LkX} (h : Inv n b x) (hb : b ≤ b') : Inv n b' x := ⟨h.n0, h.n9, Nat.le_trans h.ib hb, h.ol, h.ct, h.f0, h.fn, h.ring, h.row, h.last⟩
theorem Inv.ok {n b : Nat} {x : LkX} (h : Inv n b x) : lnOk n n x.fr x.ct x.rc := by
  have := h.ct
  exact ⟨rfl, h.n0, h.n9, h.f0, h.fn, by unfold LkX.ct; omega, by unfold LkX.ct; omega, h.ring⟩
theorem tmod_nat {n : Nat} {a : Int} (h : 0 ≤ a) : (Int.tmod a (n : Int)).toNat = a.toNat % n := by
  rw [Int.tmod_eq_emod_of_nonneg h, Int.toNat_emod h (by omega), Int.toNat_natCast]
/-- One is sent. -/
def LkX.send (x : LkX) (n : Nat) (q : Mg) : LkX := ⟨x.il ++ [q], x.ol, snR n x.fr x.ct x.rc q.k q.t q.c q.h q.b q.p q.v, x.fr, q.t, decide (q.k = 5)⟩
theorem mod_ne {n a b c : Nat} (h0 : a < n) (h1 : b < c) (h2 : c < n) : (a + b) % n ≠ (a + c) % n := by
  intro h
  have h3 := Nat.div_add_mod (a + b) n
  have h4 := Nat.div_add_mod (a + c) n
  have k1 : (a + b) / n ≤ 1 := by
    have : (a + b) / n < 2 := Nat.div_lt_of_lt_mul (by omega)
    omega
  have k2 : (a + c) / n ≤ 1 := by
    have : (a + c) / n < 2 := Nat.div_lt_of_lt_mul (by omega)
    omega
  rw [h] at h3
  generalize hu : (a + b) / n = u at *
  generalize hv : (a + c) / n = v at *
  have : u = 0 ∨ u = 1 := by omega
  have : v = 0 ∨ v = 1 := by omega
  rcases ‹u = 0 ∨ u = 1› with rfl | rfl <;> rcases ‹v = 0 ∨ v = 1› with rfl | rfl <;> omega
theorem Inv.send {n b : Nat} {x : LkX} (h : Inv n b x) (hc : x.ct ≠ (n : Int)) (q : Mg) : Inv n (b + 1) (x.send n q) := by
  have hole := h.ole
  have hct := h.ct
  have hlt : x.il.length - x.ol.length < n := by unfold LkX.ct at hc; omega
  have hfn := h.fn
  have hf0 := h.f0
  have hn0 := h.n0
  have hk : (Int.tmod (x.fr + x.ct) (n : Int)).toNat = (x.fr.toNat + (x.il.length - x.ol.length)) % n := by
    rw [tmod_nat (by unfold LkX.ct; omega)]
    congr 1
    unfold LkX.ct
    omega
  have hkn : (x.fr.toNat + (x.il.length - x.ol.length)) % n < n := Nat.mod_lt _ hn0
  have at' : ∀ i j, i < n → j < 7 → (snR n x.fr x.ct x.rc q.k q.t q.c q.h q.b q.p q.v).getD (i * 7 + j) (.tup []) = if i = (x.fr.toNat + (x.il.length - x.ol.length)) % n then q.cells.getD j (.tup []) else x.rc.getD (i * 7 + j) (.tup []) := by
    intro i j hi hj
    unfold snR
    rw [hk]
    exact splice_at (q := q.cells) h.ring.1 rfl hkn hi hj
  refine ⟨h.n0, h.n9, ?_, ?_, ?_, h.f0, h.fn, ⟨?_, ?_, ?_⟩, ?_, ?_⟩
  · have := h.ib; simp [LkX.send]; omega
  · show x.ol = (x.il ++ [q]).take x.ol.length
    rw [List.take_append_of_le_length hole]; exact h.ol
  · show (x.il ++ [q]).length - x.ol.length ≤ n
    simp; omega
  · have := h.ring.1
    show (snR n x.fr x.ct x.rc q.k q.t q.c q.h q.b q.p q.v).length = n * 7
    unfold snR splice
    rw [hk]
    simp
    omega
  · exact snR_pfs _ _ _ _ _ _ _ h.ring.2.1
  · intro i hi
    show (_ : Prop)
    simp only [LkX.send]
    rw [at' i 0 hi (by omega), at' i 1 hi (by omega), at' i 2 hi (by omega), at' i 3 hi (by omega), at' i 4 hi (by omega), at' i 5 hi (by omega), at' i 6 hi (by omega)]
    split
    · exact ⟨rfl, rfl, rfl, rfl, rfl, rfl, rfl⟩
    · exact h.ring.2.2 i hi
  · intro j hj
    have hj' : j < x.il.length + 1 - x.ol.length := by simpa [LkX.send] using hj
    show rowAt (snR n x.fr x.ct x.rc q.k q.t q.c q.h q.b q.p q.v) ((x.fr.toNat + j) % n) = (x.il ++ [q]).getD (x.ol.length + j) default
    have hm : (x.fr.toNat + j) % n < n := Nat.mod_lt _ hn0
    unfold rowAt
    rw [at' _ 0 hm (by omega), at' _ 1 hm (by omega), at' _ 2 hm (by omega), at' _ 3 hm (by omega), at' _ 4 hm (by omega), at' _ 5 hm (by omega), at' _ 6 hm (by omega)]
    by_cases e : j = x.il.length - x.ol.length
    · subst e
      simp only [if_pos]
      have : x.ol.length + (x.il.length - x.ol.length) = x.il.length := by omega
      rw [this]
      simp [Mg.cells, AV.toI]
    · have hlt' : j < x.il.length - x.ol.length := by omega
      have ne : ¬ (x.fr.toNat + j) % n = (x.fr.toNat + (x.il.length - x.ol.length)) % n := mod_ne (by omega) hlt' hlt
      simp only [if_neg ne]
      rw [gD_l (by omega)]
      exact h.row j hlt'
  · intro _
    simp [LkX.send]
/-- One is taken. -/
def LkX.take (x : LkX) (n : Nat) : LkX := ⟨x.il, x.ol ++ [rowAt x.rc x.fr.toNat], x.rc, nxF n x.fr, x.mt, x.en⟩
theorem Inv.take {n b : Nat} {x : LkX} (h : Inv n b x) (hc : x.ol.length < x.il.length) : Inv n b (x.take n) := by
  have hfn := h.fn
  have hf0 := h.f0
  have hn0 := h.n0
  have hct := h.ct
  have q0 : rowAt x.rc x.fr.toNat = x.il.getD x.ol.length default := by
    have := h.row 0 (by omega)
    rwa [Nat.add_zero, Nat.add_zero, Nat.mod_eq_of_lt (by omega)] at this
  have nx : (nxF n x.fr).toNat = (x.fr.toNat + 1) % n := by
    unfold nxF
    rw [tmod_nat (by omega)]
    congr 1
    omega
  refine ⟨h.n0, h.n9, h.ib, ?_, ?_, ?_, ?_, h.ring, ?_, h.last⟩
  · show x.ol ++ [rowAt x.rc x.fr.toNat] = x.il.take (x.ol ++ [rowAt x.rc x.fr.toNat]).length
    rw [q0, List.length_append, List.length_singleton, List.take_add_one, ← h.ol]
    congr 1
    rw [List.getD_eq_getElem?_getD, List.getElem?_eq_getElem hc]
    rfl
  · show x.il.length - (x.ol ++ [rowAt x.rc x.fr.toNat]).length ≤ n
    simp; omega
  · exact Int.tmod_nonneg _ (by omega)
  · exact Int.tmod_lt_of_pos _ (by omega)
  · intro j hj
    have hj' : j < x.il.length - (x.ol.length + 1) := by simpa [LkX.take] using hj
    show rowAt x.rc (((nxF n x.fr).toNat + j) % n) = x.il.getD ((x.ol ++ [rowAt x.rc x.fr.toNat]).length + j) default
    rw [nx, Nat.mod_add_mod, Nat.add_assoc, h.row (1 + j) (by omega), List.length_append, List.length_singleton, Nat.add_assoc]
end Go.Proofs.Ytfamikdibjhnpaa.V
