/- link: what is sent and taken (part 5): the round's pieces: Send. -/
import Derived.Test.YtfamikdibjhnpaaLkG
import Derived.Test.YtfamikdibjhnpaaLkK
namespace Go.Proofs.Ytfamikdibjhnpaa.V
open Go Go.Proofs
set_option maxRecDepth 100000
set_option maxHeartbeats 4000000
set_option linter.unusedSimpArgs false
set_option linter.unusedVariables false
def bF (bl : List Bool) : List AV := bl.map AV.bool
theorem bF_get {bl : List Bool} {i : Nat} (h : i < bl.length) : (bF bl).getD (0 + Int.toNat (i : Int) * 1) (.tup []) = .bool (bl.getD i false) := by
  simp [bF, List.getD, h]
theorem pfs_bF : ∀ {bl : List Bool}, pfs (bF bl) = true
  | [] => by simp [bF]
  | q :: r => by
    have := pfs_bF (bl := r)
    unfold bF at this ⊢
    simp [this]
/-- When one is taken: told by nothing, by an empty row, by some. -/
inductive Tk where
  | no
  | em
  | so (bl : List Bool) (c : Nat)
def Tk.v : Tk → AV
  | .no => .nilslice
  | .em => .slice 1 0 0 none
  | .so bl c => .slice 1 0 bl.length (some c)
def Tk.o : Tk → AObj
  | .so bl _ => .ro (bF bl)
  | _ => .dead
def Tk.n : Tk → Nat
  | .so _ _ => 2
  | _ => 1
def sO (b : Nat) : List Mg → AV
  | [] => .nilslice
  | q :: r => .slice b 0 (q :: r).length none
def oO : List Mg → AObj
  | [] => .dead
  | q :: r => .opn 33 7 (mF (q :: r))
theorem sO_ne {b : Nat} {l : List Mg} (h : l ≠ []) : sO b l = .slice b 0 l.length none := by cases l <;> first | rfl | exact absurd rfl h
theorem oO_ne {l : List Mg} (h : l ≠ []) : oO l = .opn 33 7 (mF l) := by cases l <;> first | rfl | exact absurd rfl h
section
variable (n : Nat) (ms : List Mg) (lk : Nat) (tk : Tk)
def lkHp (x : LkX) : AH := hpR n x.fr x.ct x.mt x.en x.rc (mF ms) tk.o (oO x.il) (oO x.ol)
def lkT (x : LkX) (i : Nat) : AF × AH := (frR n (.slice 0 0 ms.length (some lk)) tk.v (sO 4 x.il) (sO 5 x.ol) (i : Int), lkHp n ms tk x)
def lkE (i : Nat) (y : LkX × Option (Bool × Nat)) : AF × AH := (match y.2 with
  | some (fb, m) => frE n (.slice 0 0 ms.length (some lk)) tk.v (sO 4 y.1.il) (sO 5 y.1.ol) (i : Int) fb (Int.ofNat (Nat.succ m))
  | none => frE n (.slice 0 0 ms.length (some lk)) tk.v (sO 4 y.1.il) (sO 5 y.1.ol) (i : Int) false 0, lkHp n ms tk y.1)
end
def lkGs (b4 b5 : Nat) : List (Nat × Nat) := [(0, 0), (1, 1), (2, 2), (3, 3), (b4, 4), (b5, 5)]
def bOk (b4 b5 : Nat) : Prop := (b4 = 4 ∧ b5 = 5) ∨ (b4 = 7 ∧ b5 = 5) ∨ (b4 = 4 ∧ b5 = 8) ∨ (b4 = 4 ∧ b5 = 7)
section
variable {n : Nat} {ms : List Mg} {lk : Nat} {tk : Tk}
theorem fit0 {b4 b5 : Nat} (hb : bOk b4 b5) : fitsB tk.n 6 (lkGs b4 b5) = true := by
  rcases hb with ⟨rfl, rfl⟩ | ⟨rfl, rfl⟩ | ⟨rfl, rfl⟩ | ⟨rfl, rfl⟩ <;> cases tk <;> rfl
theorem oren {b : Nat} {g : Nat → Option Nat} {l : List Mg} {o : AObj} (h : oO l = .dead ∨ o = oO l) : ObjRen g o (oO l) := by
  cases l with
  | nil => cases o <;> trivial
  | cons q r =>
    rcases h with h | h
    · cases h
    · rw [h]; exact ⟨rfl, rfl, .inr ⟨pfs_mF, rfl⟩⟩
theorem fitO {b4 b5 : Nat} (hb : bOk b4 b5) {x : LkX} (hp : pfs x.rc = true) {σ : AH} (g0 : σ.get 0 = .ro (mF ms)) (g1 : σ.get 1 = tk.o) (g2 : σ.get 2 = .cells 33 x.rc) (g3 : σ.get 3 = lkObj n x.fr x.ct x.mt x.en) (g4 : oO x.il = .dead ∨ σ.get b4 = oO x.il) (g5 : oO x.ol = .dead ∨ σ.get b5 = oO x.ol) :
    objsRen (lkGs b4 b5) σ (lkHp n ms tk x) (lkGs b4 b5) := by
  refine ⟨?_, ?_, ?_, ?_, oren (b := b4) g4, oren (b := b5) g5, trivial⟩
  · show ObjRen _ (σ.get 0) _
    rw [g0]; exact .inr ⟨pfs_mF, rfl⟩
  · show ObjRen _ (σ.get 1) _
    rw [g1]
    cases tk with
    | so bl c => exact .inr ⟨pfs_bF, rfl⟩
    | _ => trivial
  · show ObjRen _ (σ.get 2) _
    rw [g2]; exact ⟨rfl, .inr ⟨hp, rfl⟩⟩
  · show ObjRen _ (σ.get 3) _
    rw [g3]; exact ⟨rfl, .inl rfl⟩
theorem fitV {b4 b5 : Nat} (hb : bOk b4 b5) {x : LkX} {i : Nat} : frRenS (lookN (lkGs b4 b5)) slR [some (.slice 0 0 ms.length (some lk)), some tk.v, some (.int .i64 (n : Int)), some (.ptr 3 0), some (sO b4 x.il), some (sO b5 x.ol), some (.int .i64 (i : Int))] (lkT n ms lk tk x i).1.l := by
  obtain ⟨il, ol, rc, fr, mt, en⟩ := x
  rcases hb with ⟨rfl, rfl⟩ | ⟨rfl, rfl⟩ | ⟨rfl, rfl⟩ | ⟨rfl, rfl⟩ <;> cases tk <;> cases il <;> cases ol <;> exact ⟨rfl, rfl, rfl, rfl, rfl, rfl, rfl, trivial⟩
theorem fitG {b4 b5 : Nat} (hb : bOk b4 b5) {x : LkX} {i : Nat} {fb : Bool} {er : Int} {y : Option (Bool × Nat)} (hy : (match y with | some (fb, m) => (fb, Int.ofNat (Nat.succ m)) | none => (false, 0)) = (fb, er)) :
    frRenS (lookN (lkGs b4 b5)) slE [some (.slice 0 0 ms.length (some lk)), some tk.v, some (.int .i64 (n : Int)), some (.ptr 3 0), some (sO b4 x.il), some (sO b5 x.ol), some (.int .i64 (i : Int)), some (.bool fb), some (.int .i64 er)] (lkE n ms lk tk i (x, y)).1.l := by
  obtain ⟨il, ol, rc, fr, mt, en⟩ := x
  cases y with
  | none =>
    cases hy
    rcases hb with ⟨rfl, rfl⟩ | ⟨rfl, rfl⟩ | ⟨rfl, rfl⟩ | ⟨rfl, rfl⟩ <;> cases tk <;> cases il <;> cases ol <;> exact ⟨rfl, rfl, rfl, rfl, rfl, rfl, rfl, rfl, rfl, trivial⟩
  | some p =>
    obtain ⟨p1, p2⟩ := p
    cases hy
    rcases hb with ⟨rfl, rfl⟩ | ⟨rfl, rfl⟩ | ⟨rfl, rfl⟩ | ⟨rfl, rfl⟩ <;> cases tk <;> cases il <;> cases ol <;> exact ⟨rfl, rfl, rfl, rfl, rfl, rfl, rfl, rfl, rfl, trivial⟩
/-- What a state becomes under the round's names. -/
theorem fitR {b4 b5 : Nat} (hb : bOk b4 b5) {x : LkX} {i : Nat} (hp : pfs x.rc = true) {vs : List (Option AV)} {σ : AH} (hv : vs = [some (.slice 0 0 ms.length (some lk)), some tk.v, some (.int .i64 (n : Int)), some (.ptr 3 0), some (sO b4 x.il), some (sO b5 x.ol), some (.int .i64 (i : Int))])
    (g0 : σ.get 0 = .ro (mF ms)) (g1 : σ.get 1 = tk.o) (g2 : σ.get 2 = .cells 33 x.rc) (g3 : σ.get 3 = lkObj n x.fr x.ct x.mt x.en) (g4 : oO x.il = .dead ∨ σ.get b4 = oO x.il) (g5 : oO x.ol = .dead ∨ σ.get b5 = oO x.ol) :
    FitsS tk.n (lkGs b4 b5) slR 162 vs σ (lkT n ms lk tk x i).1 (lkT n ms lk tk x i).2 := by
  subst hv
  exact ⟨fit0 hb, fitO hb hp g0 g1 g2 g3 g4 g5, rfl, fitV hb⟩
theorem fitE {b4 b5 : Nat} (hb : bOk b4 b5) {x : LkX} {i : Nat} (hp : pfs x.rc = true) {fb : Bool} {er : Int} (y : Option (Bool × Nat)) (hy : (match y with | some (fb, m) => (fb, Int.ofNat (Nat.succ m)) | none => (false, 0)) = (fb, er)) {vs : List (Option AV)} {σ : AH} (hv : vs = [some (.slice 0 0 ms.length (some lk)), some tk.v, some (.int .i64 (n : Int)), some (.ptr 3 0), some (sO b4 x.il), some (sO b5 x.ol), some (.int .i64 (i : Int)), some (.bool fb), some (.int .i64 er)])
    (g0 : σ.get 0 = .ro (mF ms)) (g1 : σ.get 1 = tk.o) (g2 : σ.get 2 = .cells 33 x.rc) (g3 : σ.get 3 = lkObj n x.fr x.ct x.mt x.en) (g4 : oO x.il = .dead ∨ σ.get b4 = oO x.il) (g5 : oO x.ol = .dead ∨ σ.get b5 = oO x.ol) :
    FitsS tk.n (lkGs b4 b5) slE 162 vs σ (lkE n ms lk tk i (x, y)).1 (lkE n ms lk tk i (x, y)).2 := by
  subst hv
  refine ⟨fit0 hb, fitO hb hp g0 g1 g2 g3 g4 g5, ?_, fitG hb hy⟩
  cases y <;> rfl
theorem lkT_eq {x : LkX} {i : Nat} {iv ov : AV} {a4 a5 : AObj} (h1 : sO 4 x.il = iv) (h2 : sO 5 x.ol = ov) (h3 : oO x.il = a4) (h4 : oO x.ol = a5) : lkT n ms lk tk x i = (frR n (.slice 0 0 ms.length (some lk)) tk.v iv ov (i : Int), hpR n x.fr x.ct x.mt x.en x.rc (mF ms) tk.o a4 a5) := by
  subst h1; subst h2; subst h3; subst h4; rfl
theorem send_ct {n b : Nat} {x : LkX} (h : Inv n b x) (q : Mg) : (x.send n q).ct = x.ct + 1 := by
  have := h.ole
  simp only [LkX.send, LkX.ct, List.length_append, List.length_singleton]
  omega
theorem isI_me {k : IntKind} {z : Int} : AV.isI k (.int k z) = true := by cases k <;> rfl
theorem app_ne {l : List Mg} {q : Mg} : l ++ [q] ≠ [] := by simp
/-- Len, Send, and what must be if it is sent. -/
theorem seg1 {x : LkX} {i : Nat} (hx : Inv n i x) (hi : i < ms.length) (hm : ms.length ≤ 100) {d : Code} {Q : Exit → AF → AH → Prop} (next : ∀ y : LkX × Option (Bool × Nat), Inv n (i + 1) y.1 → WP Try.prog tk.n d Q (lkE n ms lk tk i y).1 (lkE n ms lk tk i y).2) :
    WP Try.prog tk.n (seqs lkS1 d) Q (lkT n ms lk tk x i).1 (lkT n ms lk tk x i).2 := by
  have hn0 := hx.n0
  have hib := hx.ib
  have f1 : (!decide ((n : Int) > 0)) = false := by simpa using hn0
  have f2 : decide (0 ≤ (i : Int) ∧ (i : Int) < (ms.length : Int)) = true := by simp; omega
  have f3 : decide (0 + Int.toNat (i : Int) * 7 + 7 ≤ (mF ms).length) = true := by rw [mF_len]; simp; omega
  have f4 : decide (0 + Int.toNat (i : Int) * 7 + 1 < (mF ms).length) = true := by rw [mF_len]; simp; omega
  let q : Mg := ms.getD i default
  have hsr : snR n x.fr x.ct x.rc (ms.getD i default).k (ms.getD i default).t (ms.getD i default).c (ms.getD i default).h (ms.getD i default).b (ms.getD i default).p (ms.getD i default).v = (x.send n q).rc := rfl
  by_cases he : x.il = []
  · rw [lkT_eq (iv := .nilslice) (ov := sO 5 x.ol) (a4 := .dead) (a5 := oO x.ol) (by rw [he]; rfl) rfl (by rw [he]; rfl) rfl]
    refine seg (s := k1N_scr) (A := fun N Q => k1N_VC tk.n n x.fr x.ct x.mt x.en x.rc (mF ms) ms.length lk tk.v (sO 5 x.ol) i tk.o .dead (oO x.ol) N Q ()) XRd_ok rfl (by kernel_rfl) slE (lkE n ms lk tk i) (fun y => Inv n (i + 1) y.1) next (fun N Q' => k1N_vc tk.n n x.fr x.ct x.mt x.en x.rc (mF ms) ms.length lk tk.v (sO 5 x.ol) i tk.o .dead (oO x.ol) N Q' ()) ?_
    simp only [k1N_VC, f1, f2, f3, f4, m0 hi, m1 hi, m2 hi, m3 hi, m4 hi, m5 hi, m6 hi, AV.toI, isI_me, Bool.false_eq_true, Bool.true_eq_false, false_implies, true_implies, true_and, and_true]
    refine ⟨hx.ok, fun m => ?_, ?_⟩
    · exact ⟨(x, some (decide (x.ct = (n : Int)), m)), lkGs 4 5, hx.le (by omega), fitE (.inl ⟨rfl, rfl⟩) hx.ring.2.1 _ rfl (by rw [he]; rfl) rfl rfl rfl rfl (.inl (by rw [he]; rfl)) (.inr rfl)⟩
    · rintro ⟨e1, e2, e3⟩
      have f5 : decide (x.ct = (n : Int)) = false := by simpa using e3
      simp only [f5, Bool.not_false, Bool.not_true, Bool.false_eq_true, Bool.true_eq_false, false_implies, true_implies, true_and, and_true]
      refine ⟨(x.send n q, none), lkGs 7 5, hx.send e3 q, fitE (.inr (.inl ⟨rfl, rfl⟩)) (hx.send e3 q).ring.2.1 none rfl ?_ rfl rfl rfl ?_ (.inr ?_) (.inr rfl)⟩
      · show _ = [_, _, _, _, some (sO 7 (x.il ++ [q])), some (sO 5 x.ol), _, _, _]
        rw [he]; rfl
      · rw [send_ct hx]; rfl
      · show _ = oO (x.il ++ [q])
        rw [he]; rfl
  · have hlen : 0 < x.il.length := List.length_pos_iff.2 he
    have hl1 : x.il.length - 1 < x.il.length := by omega
    have w1 : IntKind.i64.wrap ((x.il.length : Int) - 1) = ((x.il.length - 1 : Nat) : Int) := by rw [wrap_in (by omega) (by omega)]; omega
    have f5 : decide ((x.il.length : Int) > 0) = true := by simpa using hlen
    have f6 : decide (0 ≤ ((x.il.length - 1 : Nat) : Int) ∧ ((x.il.length - 1 : Nat) : Int) < (x.il.length : Int)) = true := by simp; omega
    have f7 : decide (0 + Int.toNat ((x.il.length - 1 : Nat) : Int) * 7 + 1 < (mF x.il).length) = true := by rw [mF_len, Int.toNat_natCast]; simp; omega
    have f8 : decide (0 + Int.toNat ((x.il.length - 1 : Nat) : Int) * 7 + 0 < (mF x.il).length) = true := by rw [mF_len, Int.toNat_natCast]; simp; omega
    have f9 : decide (0 < x.il.length) = true := by simpa using hlen
    have f10 : decide (x.il.length * 7 = (mF x.il).length) = true := by rw [mF_len]; simp
    have f11 : decide ((x.il.length + 1) * 56 ≤ 140737488355328) = true := by simp; omega
    have f12 : decide (x.il.length + 1 ≤ 140737488355328) = true := by simp; omega
    obtain ⟨hl, hk⟩ := hx.last hlen
    rw [lkT_eq (iv := .slice 4 0 x.il.length none) (ov := sO 5 x.ol) (a4 := .opn 33 7 (mF x.il)) (a5 := oO x.ol) (sO_ne he) rfl (oO_ne he) rfl]
    refine seg (s := k1S_scr) (A := fun N Q => k1S_VC tk.n n x.fr x.ct x.mt x.en x.rc (mF ms) ms.length lk tk.v (sO 5 x.ol) i tk.o (oO x.ol) x.il.length (mF x.il) N Q ()) XRd_ok rfl (by kernel_rfl) slE (lkE n ms lk tk i) (fun y => Inv n (i + 1) y.1) next (fun N Q' => k1S_vc tk.n n x.fr x.ct x.mt x.en x.rc (mF ms) ms.length lk tk.v (sO 5 x.ol) i tk.o (oO x.ol) x.il.length (mF x.il) N Q' ()) ?_
    simp only [k1S_VC, w1, f1, f2, f3, f4, f5, f6, f7, f8, f9, f10, f11, f12, m0 hi, m1 hi, m2 hi, m3 hi, m4 hi, m5 hi, m6 hi, m1 hl1, m0' hl1, AV.toI, isI_me, Bool.false_eq_true, Bool.true_eq_false, false_implies, true_implies, true_and, and_true]
    refine ⟨hx.ok, fun m => ?_, ?_⟩
    · exact ⟨(x, some (decide (x.ct = (n : Int)), m)), lkGs 4 5, hx.le (by omega), fitE (.inl ⟨rfl, rfl⟩) hx.ring.2.1 _ rfl (by rw [sO_ne he]) rfl rfl rfl rfl (.inr (by rw [oO_ne he]; rfl)) (.inr rfl)⟩
    · rintro ⟨e1, e2, e3⟩
      have g1 : decide (x.ct = (n : Int)) = false := by simpa using e3
      have g2 : decide ((ms.getD i default).t < (x.il.getD (x.il.length - 1) default).t) = false := by rw [hl] at e2; simpa using e2
      have g3 : decide ((x.il.getD (x.il.length - 1) default).k = 5) = false := by rw [← hk]; exact e1
      simp only [g1, g2, g3, Bool.not_false, Bool.not_true, Bool.false_eq_true, Bool.true_eq_false, false_implies, true_implies, true_and, and_true]
      refine ⟨(x.send n q, none), lkGs 7 5, hx.send e3 q, fitE (.inr (.inl ⟨rfl, rfl⟩)) (hx.send e3 q).ring.2.1 none rfl ?_ rfl rfl rfl ?_ (.inr ?_) (.inr rfl)⟩
      · show _ = [_, _, _, _, some (sO 7 (x.il ++ [q])), some (sO 5 x.ol), _, _, _]
        rw [sO_ne app_ne, List.length_append]; rfl
      · rw [send_ct hx]; rfl
      · show _ = oO (x.il ++ [q])
        rw [oO_ne app_ne, mF_app]; rfl
end
end Go.Proofs.Ytfamikdibjhnpaa.V
