/- tstate: what its functions answer (part 1: screens that may be). -/
import Derived.Test.YtnfelncgeihihaaV13
import Derived.Test.YtnfelncgeihihaaT
namespace Go.Proofs.Ytnfelncgeihihaa.V
open Go Go.Proofs
set_option maxRecDepth 100000
set_option linter.unusedSimpArgs false
set_option linter.unusedVariables false

theorem wrap_in {n : Int} (h1 : -9223372036854775808 ≤ n) (h2 : n ≤ 9223372036854775807) : IntKind.i64.wrap n = n := by
  rw [IntKind.wrap_i64]; omega
theorem mul_bd {a b A B : Int} (h1 : 0 ≤ a) (h2 : a ≤ A) (h3 : 0 ≤ b) (h4 : b ≤ B) : 0 ≤ a * b ∧ a * b ≤ A * B :=
  ⟨Int.mul_nonneg h1 h3, Int.mul_le_mul h2 h4 h3 (by omega)⟩
theorem mixed : Try.prog.follows .mixedOrders = true := by kernel_rfl
abbrev I (n : Int) : AV := .int .i64 n
/-- A screen. -/
structure Scr where
  L : Int
  C : Int
  T : Int
  R : Int
  F : Int
  W : Int
  U : Int
def Scr.cs (s : Scr) : List AV := [I s.L, I s.C, I s.T, I s.R, I s.F, I s.W, I s.U]
def Scr.av (s : Scr) : AV := .agg s.cs
def wi (n a b m : Int) : Bool := decide (a ≤ n ∧ n ≤ b ∧ n.tmod m = 0)

theorem wi_true {n a b m : Int} (h : wi n a b m = true) : a ≤ n ∧ n ≤ b ∧ n.tmod m = 0 := by simpa [wi] using h
def withinF : List AV → Option AV
  | [.int .i64 n, .int .i64 a, .int .i64 b, .int .i64 m] => if m = 0 then none else some (.bool (wi n a b m))
  | _ => none
theorem within_sc (g : Good Try.prog (lookO [])) (n a b c : Int) (hc : c ≠ 0) (σ : AH) (Q : AV → AH → Prop) (h : Q (.bool (wi n a b c)) σ) : SC Try.prog 56 [I n, I a, I b, I c] σ Q := by
  refine walk g Try.func56 rfl (by simp [Try.ntmps56]) (by kernel_rfl) ?_
  simp [Try.ntmps56, Try.results56]
  unfold wi at h
  refine guardS_if ?_ ?_ <;> intro h1
  · simp [h1]
    refine guardS_if ?_ ?_ <;> intro h2
    · simp [h1, h2, hc] at h ⊢
      exact h
    · simp [h1, h2, hc] at h ⊢
      exact h
  · simp [h1, hc] at h ⊢
    exact h

theorem clo0 (g : Good Try.prog (lookO [])) (s : Scr) (σ : AH) (p q : Nat) (hp : σ.get p = .cells 83 [.func (.func 56) [] []]) (hq : σ.get q = .cells 23 s.cs) (Q : AV → AH → Prop) (h : Q (.bool (wi s.L 1 400 1)) σ) :
    SC Try.prog 57 [.ptr p 0, .ptr q 0] σ Q := by
  refine walk g Try.func57 rfl (by simp [Try.ntmps57]) (by kernel_rfl) ?_
  simp [Try.ntmps57, Try.results57, hp, hq, Scr.cs]
  refine within_sc g _ _ _ _ (by decide) _ _ ?_
  simp
  exact h

theorem clo1 (g : Good Try.prog (lookO [])) (s : Scr) (σ : AH) (p q : Nat) (hp : σ.get p = .cells 83 [.func (.func 56) [] []]) (hq : σ.get q = .cells 23 s.cs) (Q : AV → AH → Prop) (h : Q (.bool (wi s.C 8 400 4)) σ) :
    SC Try.prog 58 [.ptr p 0, .ptr q 0] σ Q := by
  refine walk g Try.func58 rfl (by simp [Try.ntmps58]) (by kernel_rfl) ?_
  simp [Try.ntmps58, Try.results58, hp, hq, Scr.cs]
  refine within_sc g _ _ _ _ (by decide) _ _ ?_
  simp
  exact h

theorem clo2 (g : Good Try.prog (lookO [])) (s : Scr) (σ : AH) (p q : Nat) (hp : σ.get p = .cells 83 [.func (.func 56) [] []]) (hq : σ.get q = .cells 23 s.cs) (Q : AV → AH → Prop) (h : Q (.bool (wi s.R 0 192 8)) σ) :
    SC Try.prog 59 [.ptr p 0, .ptr q 0] σ Q := by
  refine walk g Try.func59 rfl (by simp [Try.ntmps59]) (by kernel_rfl) ?_
  simp [Try.ntmps59, Try.results59, hp, hq, Scr.cs]
  refine within_sc g _ _ _ _ (by decide) _ _ ?_
  simp
  exact h

theorem clo3 (g : Good Try.prog (lookO [])) (s : Scr) (σ : AH) (p q : Nat) (hp : σ.get p = .cells 83 [.func (.func 56) [] []]) (hq : σ.get q = .cells 23 s.cs) (Q : AV → AH → Prop) (h : Q (.bool (wi s.W 0 32 2)) σ) :
    SC Try.prog 60 [.ptr p 0, .ptr q 0] σ Q := by
  refine walk g Try.func60 rfl (by simp [Try.ntmps60]) (by kernel_rfl) ?_
  simp [Try.ntmps60, Try.results60, hp, hq, Scr.cs]
  refine within_sc g _ _ _ _ (by decide) _ _ ?_
  simp
  exact h

theorem clo4 (g : Good Try.prog (lookO [])) (s : Scr) (σ : AH) (p q : Nat) (hp : σ.get p = .cells 83 [.func (.func 56) [] []]) (hq : σ.get q = .cells 23 s.cs) (Q : AV → AH → Prop) (h : Q (.bool (wi s.F 1 400 1)) σ) :
    SC Try.prog 61 [.ptr p 0, .ptr q 0] σ Q := by
  refine walk g Try.func61 rfl (by simp [Try.ntmps61]) (by kernel_rfl) ?_
  simp [Try.ntmps61, Try.results61, hp, hq, Scr.cs]
  refine within_sc g _ _ _ _ (by decide) _ _ ?_
  simp
  exact h

theorem clo5 (g : Good Try.prog (lookO [])) (s : Scr) (σ : AH) (p q : Nat) (hp : σ.get p = .cells 83 [.func (.func 56) [] []]) (hq : σ.get q = .cells 23 s.cs) (Q : AV → AH → Prop) (h : Q (.bool (wi s.U 1 64 1)) σ) :
    SC Try.prog 62 [.ptr p 0, .ptr q 0] σ Q := by
  refine walk g Try.func62 rfl (by simp [Try.ntmps62]) (by kernel_rfl) ?_
  simp [Try.ntmps62, Try.results62, hp, hq, Scr.cs]
  refine within_sc g _ _ _ _ (by decide) _ _ ?_
  simp
  exact h

theorem clo6 (g : Good Try.prog (lookO [])) (s : Scr) (σ : AH) (p q : Nat) (hp : σ.get p = .cells 83 [.func (.func 56) [] []]) (hq : σ.get q = .cells 23 s.cs) (Q : AV → AH → Prop) (h : Q (.bool (wi s.T 0 400 1)) σ) :
    SC Try.prog 63 [.ptr p 0, .ptr q 0] σ Q := by
  refine walk g Try.func63 rfl (by simp [Try.ntmps63]) (by kernel_rfl) ?_
  simp [Try.ntmps63, Try.results63, hp, hq, Scr.cs]
  refine within_sc g _ _ _ _ (by decide) _ _ ?_
  simp
  exact h

theorem clo7 (g : Good Try.prog (lookO [])) (s : Scr) (σ : AH) (q : Nat) (hq : σ.get q = .cells 23 s.cs) (b1 : 0 ≤ s.T) (b2 : s.T ≤ 400) (b3 : 0 ≤ s.R) (b4 : s.R ≤ 192) (Q : AV → AH → Prop) (h : Q (.bool (decide (s.T + s.R ≤ s.L))) σ) :
    SC Try.prog 64 [.ptr q 0] σ Q := by
  have e1 : IntKind.i64.wrap (s.T + s.R) = s.T + s.R := wrap_in (by omega) (by omega)
  refine walk g Try.func64 rfl (by simp [Try.ntmps64]) (by kernel_rfl) ?_
  simp [Try.ntmps64, Try.results64, hq, Scr.cs, e1]
  exact h

theorem clo8 (g : Good Try.prog (lookO [])) (s : Scr) (σ : AH) (q : Nat) (hq : σ.get q = .cells 23 s.cs) (b1 : 0 ≤ s.F) (b2 : s.F ≤ 400) (b3 : 0 ≤ s.W) (b4 : s.W ≤ 32) (Q : AV → AH → Prop) (h : Q (.bool (decide (s.F + 4 * s.W ≤ s.C))) σ) :
    SC Try.prog 65 [.ptr q 0] σ Q := by
  have e1 : IntKind.i64.wrap (4 * s.W) = 4 * s.W := wrap_in (by omega) (by omega)
  have e2 : IntKind.i64.wrap (s.F + 4 * s.W) = s.F + 4 * s.W := wrap_in (by omega) (by omega)
  refine walk g Try.func65 rfl (by simp [Try.ntmps65]) (by kernel_rfl) ?_
  simp [Try.ntmps65, Try.results65, hq, Scr.cs, e1, e2]
  exact h

theorem clo9 (g : Good Try.prog (lookO [])) (s : Scr) (σ : AH) (q : Nat) (hq : σ.get q = .cells 23 s.cs) (b1 : 0 ≤ s.L) (b2 : s.L ≤ 400) (b3 : 0 ≤ s.C) (b4 : s.C ≤ 400) (Q : AV → AH → Prop) (h : Q (.bool (decide (s.U ≤ s.L * s.C))) σ) :
    SC Try.prog 66 [.ptr q 0] σ Q := by
  have hb := mul_bd b1 b2 b3 b4
  have e1 : IntKind.i64.wrap (s.L * s.C) = s.L * s.C := wrap_in (by omega) (by omega)
  refine walk g Try.func66 rfl (by simp [Try.ntmps66]) (by kernel_rfl) ?_
  simp [Try.ntmps66, Try.results66, hq, Scr.cs, e1]
  exact h

def Scr.ok (s : Scr) : Bool :=
  wi s.L 1 400 1 &&
  wi s.C 8 400 4 &&
  wi s.R 0 192 8 &&
  wi s.W 0 32 2 &&
  wi s.F 1 400 1 &&
  wi s.U 1 64 1 &&
  wi s.T 0 400 1 &&
  decide (s.T + s.R ≤ s.L) &&
  decide (s.F + 4 * s.W ≤ s.C) &&
  decide (s.U ≤ s.L * s.C)

theorem check_sc (g : Good Try.prog (lookO [])) (s : Scr) : SC Try.prog 18 [s.av] h0 (fun u _ => u = I (if s.ok = true then 0 else 2)) := by
  refine walk g Try.func18 rfl (by simp [Try.ntmps18]) (by kernel_rfl) ?_
  simp [Try.ntmps18, Try.results18, Scr.av, h0]
  refine walk_round g (by kernel_rfl) ?_
  simp
  refine clo0 g s _ _ _ (by simp) (by simp [Scr.cs]) _ ?_
  simp
  refine condS_not ?_ ?_ <;> intro c0
  · simp [c0, Scr.ok]
  simp
  refine walk_round g (by kernel_rfl) ?_
  simp
  refine clo1 g s _ _ _ (by simp) (by simp [Scr.cs]) _ ?_
  simp
  refine condS_not ?_ ?_ <;> intro c1
  · simp [c1, Scr.ok]
  simp
  refine walk_round g (by kernel_rfl) ?_
  simp
  refine clo2 g s _ _ _ (by simp) (by simp [Scr.cs]) _ ?_
  simp
  refine condS_not ?_ ?_ <;> intro c2
  · simp [c2, Scr.ok]
  simp
  refine walk_round g (by kernel_rfl) ?_
  simp
  refine clo3 g s _ _ _ (by simp) (by simp [Scr.cs]) _ ?_
  simp
  refine condS_not ?_ ?_ <;> intro c3
  · simp [c3, Scr.ok]
  simp
  refine walk_round g (by kernel_rfl) ?_
  simp
  refine clo4 g s _ _ _ (by simp) (by simp [Scr.cs]) _ ?_
  simp
  refine condS_not ?_ ?_ <;> intro c4
  · simp [c4, Scr.ok]
  simp
  refine walk_round g (by kernel_rfl) ?_
  simp
  refine clo5 g s _ _ _ (by simp) (by simp [Scr.cs]) _ ?_
  simp
  refine condS_not ?_ ?_ <;> intro c5
  · simp [c5, Scr.ok]
  simp
  refine walk_round g (by kernel_rfl) ?_
  simp
  refine clo6 g s _ _ _ (by simp) (by simp [Scr.cs]) _ ?_
  simp
  refine condS_not ?_ ?_ <;> intro c6
  · simp [c6, Scr.ok]
  simp
  obtain ⟨x1, x2, x3⟩ := wi_true c6
  obtain ⟨y1, y2, y3⟩ := wi_true c2
  refine walk_round g (by kernel_rfl) ?_
  simp
  refine clo7 g s _ _ (by simp [Scr.cs]) (by omega) (by omega) (by omega) (by omega) _ ?_
  simp
  refine condS_not ?_ ?_ <;> intro c7
  · simp [c7, Scr.ok]
  simp
  obtain ⟨x1, x2, x3⟩ := wi_true c4
  obtain ⟨y1, y2, y3⟩ := wi_true c3
  refine walk_round g (by kernel_rfl) ?_
  simp
  refine clo8 g s _ _ (by simp [Scr.cs]) (by omega) (by omega) (by omega) (by omega) _ ?_
  simp
  refine condS_not ?_ ?_ <;> intro c8
  · simp [c8, Scr.ok]
  simp
  obtain ⟨x1, x2, x3⟩ := wi_true c0
  obtain ⟨y1, y2, y3⟩ := wi_true c1
  refine walk_round g (by kernel_rfl) ?_
  simp
  refine clo9 g s _ _ (by simp [Scr.cs]) (by omega) (by omega) (by omega) (by omega) _ ?_
  simp
  refine condS_not ?_ ?_ <;> intro c9
  · simp [c9, Scr.ok]
  simp
  refine walk_round g (by kernel_rfl) ?_
  simp
  simp [c0, c1, c2, c3, c4, c5, c6, c7, c8, c9, Scr.ok]
end Go.Proofs.Ytnfelncgeihihaa.V
