/- contend: rows of requests (part 15): the law of rows over plain values. Printed by gen_rws.py. contend: rows of requests (part 16): the law over memory that is only read, as a row of a claim wants it. -/
import Derived.Test.YtnfelncgeihihaaRwR
namespace Go.Proofs.Ytnfelncgeihihaa.V
open Go Go.Proofs
set_option maxRecDepth 100000
set_option maxHeartbeats 4000000
set_option linter.unusedSimpArgs false
set_option linter.unusedVariables false
theorem both_t {b : Bool} {p q : Prop} (h : b = true) (k : p) : (b = true → p) ∧ (b = false → q) := ⟨fun _ => k, fun e => by rw [h] at e; cases e⟩
theorem both_f {b : Bool} {p q : Prop} (h : b = false) (k : q) : (b = true → p) ∧ (b = false → q) := ⟨fun e => (by rw [h] at e; cases e), fun _ => k⟩
theorem le_23 : 2 ≤ 3 := by omega
theorem le_24 : 2 ≤ 4 := by omega
theorem le_25 : 2 ≤ 5 := by omega
theorem lwN_ok {L C T R F W U t u : Int} {rq : List Rq} {bs : List AV} {c : Nat} (hb : pfs bs = true) (hp : 0 < rq.length) (hq : rqsOk rq) : lwN_VC L C T R F W U t u rq bs c (fun v _ => v = .bool true) := by
  unfold lwN_VC
  by_cases gl : (rq.length : Int) > 40
  · have gla : decide ((rq.length : Int) > 40) = true := decide_eq_true gl
    have glb : (!decide ((rq.length : Int) > 40)) = false := by rw [gla]; rfl
    have glc : (!!decide ((rq.length : Int) > 40)) = true := by rw [gla]; rfl
    repeat' first
      | assumption
      | exact rfl
      | refine both_t (by assumption) ?_
      | refine both_f (by assumption) ?_
      | refine And.intro ?_ ?_
  · have gla : decide ((rq.length : Int) > 40) = false := decide_eq_false gl
    have glb : (!decide ((rq.length : Int) > 40)) = true := by rw [gla]; rfl
    have glc : (!!decide ((rq.length : Int) > 40)) = false := by rw [gla]; rfl
    by_cases hk : okF L C T R F W U = true
    · have hka : decide (okF L C T R F W U = true) = true := decide_eq_true hk
      have hkb : (!decide (okF L C T R F W U = true)) = false := by rw [hka]; rfl
      have hkc : (!!decide (okF L C T R F W U = true)) = true := by rw [hka]; rfl
      have ke : (if okF L C T R F W U = true then (0 : Int) else (2 : Int)) = 0 := by rw [if_pos hk]
      have kea : decide ((if okF L C T R F W U = true then (0 : Int) else (2 : Int)) = (0 : Int)) = true := by rw [ke]; rfl
      have keb : (!decide ((if okF L C T R F W U = true then (0 : Int) else (2 : Int)) = (0 : Int))) = false := by rw [ke]; rfl
      have kec : (!!decide ((if okF L C T R F W U = true then (0 : Int) else (2 : Int)) = (0 : Int))) = true := by rw [ke]; rfl
      by_cases g0 : t < (0 : Int)
      · have g0a : decide (t < (0 : Int)) = true := decide_eq_true g0
        have g0b : (!decide (t < (0 : Int))) = false := by rw [g0a]; rfl
        have g0c : (!!decide (t < (0 : Int))) = true := by rw [g0a]; rfl
        repeat' first
          | assumption
          | exact rfl
          | refine both_t (by assumption) ?_
          | refine both_f (by assumption) ?_
          | refine And.intro ?_ ?_
      · have g0a : decide (t < (0 : Int)) = false := decide_eq_false g0
        have g0b : (!decide (t < (0 : Int))) = true := by rw [g0a]; rfl
        have g0c : (!!decide (t < (0 : Int))) = false := by rw [g0a]; rfl
        by_cases g1 : t > u
        · have g1a : decide (t > u) = true := decide_eq_true g1
          have g1b : (!decide (t > u)) = false := by rw [g1a]; rfl
          have g1c : (!!decide (t > u)) = true := by rw [g1a]; rfl
          repeat' first
            | assumption
            | exact rfl
            | refine both_t (by assumption) ?_
            | refine both_f (by assumption) ?_
            | refine And.intro ?_ ?_
        · have g1a : decide (t > u) = false := decide_eq_false g1
          have g1b : (!decide (t > u)) = true := by rw [g1a]; rfl
          have g1c : (!!decide (t > u)) = false := by rw [g1a]; rfl
          by_cases g2 : u > (549755813888 : Int)
          · have g2a : decide (u > (549755813888 : Int)) = true := decide_eq_true g2
            have g2b : (!decide (u > (549755813888 : Int))) = false := by rw [g2a]; rfl
            have g2c : (!!decide (u > (549755813888 : Int))) = true := by rw [g2a]; rfl
            repeat' first
              | assumption
              | exact rfl
              | refine both_t (by assumption) ?_
              | refine both_f (by assumption) ?_
              | refine And.intro ?_ ?_
          · have g2a : decide (u > (549755813888 : Int)) = false := decide_eq_false g2
            have g2b : (!decide (u > (549755813888 : Int))) = true := by rw [g2a]; rfl
            have g2c : (!!decide (u > (549755813888 : Int))) = false := by rw [g2a]; rfl
            have hn : rq.length ≤ 60 := by omega
            have hz := okF_sz hk
            have hlen : lenF L C T R F W U = L * C := by simp [lenF, hk]
            have hwr : (IntKind.i64.wrap (t + lenF L C T R F W U)) = t + L * C := by rw [hlen]; exact wrap_in (by omega) (by omega)
            have ho1 : rowOksN L C T R F W U t rq bs := ⟨hb, hn, hp, fun i hi => rowOk_of hk hq (by omega) (by omega) hi⟩
            have ho2 : rowOksN L C T R F W U u rq bs := ⟨hb, hn, hp, fun i hi => rowOk_of hk hq (by omega) (by omega) hi⟩
            have ho3 : rowOksN L C T R F W U (IntKind.i64.wrap (t + lenF L C T R F W U)) rq bs := by rw [hwr]; exact ⟨hb, hn, hp, fun i hi => rowOk_of hk hq (by omega) (by omega) hi⟩
            have hcond : pfs bs = true ∧ rq.length ≤ 60 ∧ rqsOk rq ∧ okF L C T R F W U = true ∧ (0 : Int) ≤ t ∧ t + 31 * (rq.length : Int) ≤ 1099511626776 := ⟨hb, hn, hq, hk, by omega, by omega⟩
            have hm : ¬ (rowE L C T R F W U rq (fun _ => false) u rq.length) < (rowE L C T R F W U rq (fun _ => false) t rq.length) := by have := rowE_mono (sl := fun _ => false) hk hq (show 0 ≤ t by omega) (show t ≤ u by omega) (by omega) (Nat.le_refl rq.length); omega
            obtain ⟨e0, e1⟩ := rowE_bd (sl := fun _ => false) hk hq (show 0 ≤ t by omega) (by omega) (Nat.le_refl rq.length)
            have hpe : (rowE L C T R F W U rq (fun _ => false) (IntKind.i64.wrap (t + lenF L C T R F W U)) rq.length) = IntKind.i64.wrap ((rowE L C T R F W U rq (fun _ => false) t rq.length) + lenF L C T R F W U) := by rw [hwr, hlen, rowE_per hk hq (by omega) (by omega) (Nat.le_refl _), wrap_in (by omega) (by omega)]
            have hll : (rq.length : Int) = (rq.length : Int) := rfl
            have hK : AV.bool (decide ((rowE L C T R F W U rq (fun _ => false) t rq.length) = (rowE L C T R F W U rq (fun _ => false) t rq.length))) = AV.bool true := by rw [decide_eq_true rfl]
            have hma : decide ((rowE L C T R F W U rq (fun _ => false) u rq.length) < (rowE L C T R F W U rq (fun _ => false) t rq.length)) = false := decide_eq_false hm
            have hmb : (!decide ((rowE L C T R F W U rq (fun _ => false) u rq.length) < (rowE L C T R F W U rq (fun _ => false) t rq.length))) = true := by rw [hma]; rfl
            have hmc : (!!decide ((rowE L C T R F W U rq (fun _ => false) u rq.length) < (rowE L C T R F W U rq (fun _ => false) t rq.length))) = false := by rw [hma]; rfl
            have hpea : decide ((rowE L C T R F W U rq (fun _ => false) (IntKind.i64.wrap (t + lenF L C T R F W U)) rq.length) = IntKind.i64.wrap ((rowE L C T R F W U rq (fun _ => false) t rq.length) + lenF L C T R F W U)) = true := decide_eq_true hpe
            have hpeb : (!decide ((rowE L C T R F W U rq (fun _ => false) (IntKind.i64.wrap (t + lenF L C T R F W U)) rq.length) = IntKind.i64.wrap ((rowE L C T R F W U rq (fun _ => false) t rq.length) + lenF L C T R F W U))) = false := by rw [hpea]; rfl
            have hpec : (!!decide ((rowE L C T R F W U rq (fun _ => false) (IntKind.i64.wrap (t + lenF L C T R F W U)) rq.length) = IntKind.i64.wrap ((rowE L C T R F W U rq (fun _ => false) t rq.length) + lenF L C T R F W U))) = true := by rw [hpea]; rfl
            have hlla : decide ((rq.length : Int) = (rq.length : Int)) = true := decide_eq_true hll
            have hllb : (!decide ((rq.length : Int) = (rq.length : Int))) = false := by rw [hlla]; rfl
            have hllc : (!!decide ((rq.length : Int) = (rq.length : Int))) = true := by rw [hlla]; rfl
            repeat' first
              | assumption
              | exact rfl
              | refine both_t (by assumption) ?_
              | refine both_f (by assumption) ?_
              | exact ⟨rfl, ⟨.inr ⟨pfs_qF, rfl⟩, .inr ⟨hb, rfl⟩, ⟨rfl, .inr ⟨rfl, rfl⟩⟩, trivial⟩, rfl, ⟨rfl, rfl, rfl, rfl, rfl, rfl, trivial⟩⟩
              | exact ⟨rfl, ⟨.inr ⟨pfs_qF, rfl⟩, .inr ⟨hb, rfl⟩, ⟨rfl, .inr ⟨rfl, rfl⟩⟩, ⟨rfl, rfl, .inr ⟨pfs_encI, rfl⟩⟩, trivial⟩, rfl, ⟨rfl, rfl, rfl, rfl, rfl, rfl, rfl, trivial⟩⟩
              | exact ⟨hb, hn, hq⟩
              | exact ho1
              | exact ho2
              | exact ho3
              | exact hcond
              | exact le_23
              | exact le_24
              | exact le_25
              | exact hK
              | refine And.intro ?_ ?_
    · have hka : decide (okF L C T R F W U = true) = false := decide_eq_false hk
      have hkb : (!decide (okF L C T R F W U = true)) = true := by rw [hka]; rfl
      have hkc : (!!decide (okF L C T R F W U = true)) = false := by rw [hka]; rfl
      have ke : (if okF L C T R F W U = true then (0 : Int) else (2 : Int)) = 2 := by rw [if_neg hk]
      have kea : decide ((if okF L C T R F W U = true then (0 : Int) else (2 : Int)) = (0 : Int)) = false := by rw [ke]; rfl
      have keb : (!decide ((if okF L C T R F W U = true then (0 : Int) else (2 : Int)) = (0 : Int))) = true := by rw [ke]; rfl
      have kec : (!!decide ((if okF L C T R F W U = true then (0 : Int) else (2 : Int)) = (0 : Int))) = false := by rw [ke]; rfl
      repeat' first
        | assumption
        | exact rfl
        | refine both_t (by assumption) ?_
        | refine both_f (by assumption) ?_
        | refine And.intro ?_ ?_
theorem lwN_sc {L C T R F W U t u : Int} {rq : List Rq} {bs : List AV} {c : Nat} (hb : pfs bs = true) (hp : 0 < rq.length) (hq : rqsOk rq) : SC Try.prog 14 [.agg [.int .i64 L, .int .i64 C, .int .i64 T, .int .i64 R, .int .i64 F, .int .i64 W, .int .i64 U], .slice 0 0 rq.length (some c), .nilslice, .int .i64 t, .int .i64 u] ⟨2, [(1, .ro bs), (0, .ro (qF rq))]⟩ (fun v _ => v = .bool true) := by
  refine sc_of_vcH (XLwN_ok L C T R F W U t u rq bs c) (by kernel_rfl) ?_ (lwN_vc L C T R F W U t u rq bs c _) (lwN_ok hb hp hq)
  · intro p hp' l hl
    rw [show (XLwN L C T R F W U t u rq bs c).P = Try.prog from rfl, rw2_loops] at hp'
    simp only [List.mem_cons, List.not_mem_nil, or_false] at hp'
    rcases hp' with rfl | rfl
    · cases hl; exact LChN_ok L C T R F W U t u rq bs c
    · cases hl; exact LCmN_ok L C T R F W U t u rq bs c
theorem lbN_ok {L C T R F W U t u : Int} {rq : List Rq} {bs : List AV} {c : Nat} (hb : pfs bs = true) (hp : 0 < rq.length) (hq : ¬ rqsOk rq) : lbN_VC L C T R F W U t u rq bs c (fun v _ => v = .bool true) := by
  unfold lbN_VC
  by_cases gl : (rq.length : Int) > 40
  · have gla : decide ((rq.length : Int) > 40) = true := decide_eq_true gl
    have glb : (!decide ((rq.length : Int) > 40)) = false := by rw [gla]; rfl
    have glc : (!!decide ((rq.length : Int) > 40)) = true := by rw [gla]; rfl
    repeat' first
      | assumption
      | exact rfl
      | refine both_t (by assumption) ?_
      | refine both_f (by assumption) ?_
      | refine And.intro ?_ ?_
  · have gla : decide ((rq.length : Int) > 40) = false := decide_eq_false gl
    have glb : (!decide ((rq.length : Int) > 40)) = true := by rw [gla]; rfl
    have glc : (!!decide ((rq.length : Int) > 40)) = false := by rw [gla]; rfl
    by_cases hk : okF L C T R F W U = true
    · have hka : decide (okF L C T R F W U = true) = true := decide_eq_true hk
      have hkb : (!decide (okF L C T R F W U = true)) = false := by rw [hka]; rfl
      have hkc : (!!decide (okF L C T R F W U = true)) = true := by rw [hka]; rfl
      have ke : (if okF L C T R F W U = true then (0 : Int) else (2 : Int)) = 0 := by rw [if_pos hk]
      have kea : decide ((if okF L C T R F W U = true then (0 : Int) else (2 : Int)) = (0 : Int)) = true := by rw [ke]; rfl
      have keb : (!decide ((if okF L C T R F W U = true then (0 : Int) else (2 : Int)) = (0 : Int))) = false := by rw [ke]; rfl
      have kec : (!!decide ((if okF L C T R F W U = true then (0 : Int) else (2 : Int)) = (0 : Int))) = true := by rw [ke]; rfl
      by_cases g0 : t < (0 : Int)
      · have g0a : decide (t < (0 : Int)) = true := decide_eq_true g0
        have g0b : (!decide (t < (0 : Int))) = false := by rw [g0a]; rfl
        have g0c : (!!decide (t < (0 : Int))) = true := by rw [g0a]; rfl
        repeat' first
          | assumption
          | exact rfl
          | refine both_t (by assumption) ?_
          | refine both_f (by assumption) ?_
          | refine And.intro ?_ ?_
      · have g0a : decide (t < (0 : Int)) = false := decide_eq_false g0
        have g0b : (!decide (t < (0 : Int))) = true := by rw [g0a]; rfl
        have g0c : (!!decide (t < (0 : Int))) = false := by rw [g0a]; rfl
        by_cases g1 : t > u
        · have g1a : decide (t > u) = true := decide_eq_true g1
          have g1b : (!decide (t > u)) = false := by rw [g1a]; rfl
          have g1c : (!!decide (t > u)) = true := by rw [g1a]; rfl
          repeat' first
            | assumption
            | exact rfl
            | refine both_t (by assumption) ?_
            | refine both_f (by assumption) ?_
            | refine And.intro ?_ ?_
        · have g1a : decide (t > u) = false := decide_eq_false g1
          have g1b : (!decide (t > u)) = true := by rw [g1a]; rfl
          have g1c : (!!decide (t > u)) = false := by rw [g1a]; rfl
          by_cases g2 : u > (549755813888 : Int)
          · have g2a : decide (u > (549755813888 : Int)) = true := decide_eq_true g2
            have g2b : (!decide (u > (549755813888 : Int))) = false := by rw [g2a]; rfl
            have g2c : (!!decide (u > (549755813888 : Int))) = true := by rw [g2a]; rfl
            repeat' first
              | assumption
              | exact rfl
              | refine both_t (by assumption) ?_
              | refine both_f (by assumption) ?_
              | refine And.intro ?_ ?_
          · have g2a : decide (u > (549755813888 : Int)) = false := decide_eq_false g2
            have g2b : (!decide (u > (549755813888 : Int))) = true := by rw [g2a]; rfl
            have g2c : (!!decide (u > (549755813888 : Int))) = false := by rw [g2a]; rfl
            have hn : rq.length ≤ 60 := by omega
            repeat' first
              | assumption
              | exact rfl
              | refine both_t (by assumption) ?_
              | refine both_f (by assumption) ?_
              | exact ⟨rfl, ⟨.inr ⟨pfs_qF, rfl⟩, .inr ⟨hb, rfl⟩, ⟨rfl, .inr ⟨rfl, rfl⟩⟩, trivial⟩, rfl, ⟨rfl, rfl, rfl, rfl, rfl, rfl, trivial⟩⟩
              | exact ⟨hb, hn, hq⟩
              | refine And.intro ?_ ?_
    · have hka : decide (okF L C T R F W U = true) = false := decide_eq_false hk
      have hkb : (!decide (okF L C T R F W U = true)) = true := by rw [hka]; rfl
      have hkc : (!!decide (okF L C T R F W U = true)) = false := by rw [hka]; rfl
      have ke : (if okF L C T R F W U = true then (0 : Int) else (2 : Int)) = 2 := by rw [if_neg hk]
      have kea : decide ((if okF L C T R F W U = true then (0 : Int) else (2 : Int)) = (0 : Int)) = false := by rw [ke]; rfl
      have keb : (!decide ((if okF L C T R F W U = true then (0 : Int) else (2 : Int)) = (0 : Int))) = true := by rw [ke]; rfl
      have kec : (!!decide ((if okF L C T R F W U = true then (0 : Int) else (2 : Int)) = (0 : Int))) = false := by rw [ke]; rfl
      repeat' first
        | assumption
        | exact rfl
        | refine both_t (by assumption) ?_
        | refine both_f (by assumption) ?_
        | refine And.intro ?_ ?_
theorem lbN_sc {L C T R F W U t u : Int} {rq : List Rq} {bs : List AV} {c : Nat} (hb : pfs bs = true) (hp : 0 < rq.length) (hq : ¬ rqsOk rq) : SC Try.prog 14 [.agg [.int .i64 L, .int .i64 C, .int .i64 T, .int .i64 R, .int .i64 F, .int .i64 W, .int .i64 U], .slice 0 0 rq.length (some c), .nilslice, .int .i64 t, .int .i64 u] ⟨2, [(1, .ro bs), (0, .ro (qF rq))]⟩ (fun v _ => v = .bool true) := by
  refine sc_of_vcH (XLbN_ok L C T R F W U t u rq bs c) (by kernel_rfl) ?_ (lbN_vc L C T R F W U t u rq bs c _) (lbN_ok hb hp hq)
  · intro p hp' l hl
    rw [show (XLbN L C T R F W U t u rq bs c).P = Try.prog from rfl, rw2_loops] at hp'
    simp only [List.mem_cons, List.not_mem_nil, or_false] at hp'
    rcases hp' with rfl | rfl
    · cases hl; exact LBdN_ok L C T R F W U t u rq bs c
    · cases hl
theorem rowsN_sc {L C T R F W U t u : Int} {rq : List Rq} {bs : List AV} {c : Nat} (hb : pfs bs = true) (hp : 0 < rq.length) : SC Try.prog 14 [.agg [.int .i64 L, .int .i64 C, .int .i64 T, .int .i64 R, .int .i64 F, .int .i64 W, .int .i64 U], .slice 0 0 rq.length (some c), .nilslice, .int .i64 t, .int .i64 u] ⟨2, [(1, .ro bs), (0, .ro (qF rq))]⟩ (fun v _ => v = .bool true) := by
  by_cases hq : rqsOk rq
  · exact lwN_sc hb hp hq
  · exact lbN_sc hb hp hq
theorem lwE_ok {L C T R F W U t u : Int} {rq : List Rq} {bs : List AV} {c : Nat} (hb : pfs bs = true) (hp : 0 < rq.length) (hq : rqsOk rq) : lwE_VC L C T R F W U t u rq bs c (fun v _ => v = .bool true) := by
  unfold lwE_VC
  by_cases gl : (rq.length : Int) > 40
  · have gla : decide ((rq.length : Int) > 40) = true := decide_eq_true gl
    have glb : (!decide ((rq.length : Int) > 40)) = false := by rw [gla]; rfl
    have glc : (!!decide ((rq.length : Int) > 40)) = true := by rw [gla]; rfl
    repeat' first
      | assumption
      | exact rfl
      | refine both_t (by assumption) ?_
      | refine both_f (by assumption) ?_
      | refine And.intro ?_ ?_
  · have gla : decide ((rq.length : Int) > 40) = false := decide_eq_false gl
    have glb : (!decide ((rq.length : Int) > 40)) = true := by rw [gla]; rfl
    have glc : (!!decide ((rq.length : Int) > 40)) = false := by rw [gla]; rfl
    by_cases hk : okF L C T R F W U = true
    · have hka : decide (okF L C T R F W U = true) = true := decide_eq_true hk
      have hkb : (!decide (okF L C T R F W U = true)) = false := by rw [hka]; rfl
      have hkc : (!!decide (okF L C T R F W U = true)) = true := by rw [hka]; rfl
      have ke : (if okF L C T R F W U = true then (0 : Int) else (2 : Int)) = 0 := by rw [if_pos hk]
      have kea : decide ((if okF L C T R F W U = true then (0 : Int) else (2 : Int)) = (0 : Int)) = true := by rw [ke]; rfl
      have keb : (!decide ((if okF L C T R F W U = true then (0 : Int) else (2 : Int)) = (0 : Int))) = false := by rw [ke]; rfl
      have kec : (!!decide ((if okF L C T R F W U = true then (0 : Int) else (2 : Int)) = (0 : Int))) = true := by rw [ke]; rfl
      by_cases g0 : t < (0 : Int)
      · have g0a : decide (t < (0 : Int)) = true := decide_eq_true g0
        have g0b : (!decide (t < (0 : Int))) = false := by rw [g0a]; rfl
        have g0c : (!!decide (t < (0 : Int))) = true := by rw [g0a]; rfl
        repeat' first
          | assumption
          | exact rfl
          | refine both_t (by assumption) ?_
          | refine both_f (by assumption) ?_
          | refine And.intro ?_ ?_
      · have g0a : decide (t < (0 : Int)) = false := decide_eq_false g0
        have g0b : (!decide (t < (0 : Int))) = true := by rw [g0a]; rfl
        have g0c : (!!decide (t < (0 : Int))) = false := by rw [g0a]; rfl
        by_cases g1 : t > u
        · have g1a : decide (t > u) = true := decide_eq_true g1
          have g1b : (!decide (t > u)) = false := by rw [g1a]; rfl
          have g1c : (!!decide (t > u)) = true := by rw [g1a]; rfl
          repeat' first
            | assumption
            | exact rfl
            | refine both_t (by assumption) ?_
            | refine both_f (by assumption) ?_
            | refine And.intro ?_ ?_
        · have g1a : decide (t > u) = false := decide_eq_false g1
          have g1b : (!decide (t > u)) = true := by rw [g1a]; rfl
          have g1c : (!!decide (t > u)) = false := by rw [g1a]; rfl
          by_cases g2 : u > (549755813888 : Int)
          · have g2a : decide (u > (549755813888 : Int)) = true := decide_eq_true g2
            have g2b : (!decide (u > (549755813888 : Int))) = false := by rw [g2a]; rfl
            have g2c : (!!decide (u > (549755813888 : Int))) = true := by rw [g2a]; rfl
            repeat' first
              | assumption
              | exact rfl
              | refine both_t (by assumption) ?_
              | refine both_f (by assumption) ?_
              | refine And.intro ?_ ?_
          · have g2a : decide (u > (549755813888 : Int)) = false := decide_eq_false g2
            have g2b : (!decide (u > (549755813888 : Int))) = true := by rw [g2a]; rfl
            have g2c : (!!decide (u > (549755813888 : Int))) = false := by rw [g2a]; rfl
            have hn : rq.length ≤ 60 := by omega
            have hz := okF_sz hk
            have hlen : lenF L C T R F W U = L * C := by simp [lenF, hk]
            have hwr : (IntKind.i64.wrap (t + lenF L C T R F W U)) = t + L * C := by rw [hlen]; exact wrap_in (by omega) (by omega)
            have ho1 : rowOksE L C T R F W U t rq bs := ⟨hb, hn, hp, fun i hi => rowOk_of hk hq (by omega) (by omega) hi⟩
            have ho2 : rowOksE L C T R F W U u rq bs := ⟨hb, hn, hp, fun i hi => rowOk_of hk hq (by omega) (by omega) hi⟩
            have ho3 : rowOksE L C T R F W U (IntKind.i64.wrap (t + lenF L C T R F W U)) rq bs := by rw [hwr]; exact ⟨hb, hn, hp, fun i hi => rowOk_of hk hq (by omega) (by omega) hi⟩
            have hcond : pfs bs = true ∧ rq.length ≤ 60 ∧ rqsOk rq ∧ okF L C T R F W U = true ∧ (0 : Int) ≤ t ∧ t + 31 * (rq.length : Int) ≤ 1099511626776 := ⟨hb, hn, hq, hk, by omega, by omega⟩
            have hm : ¬ (rowE L C T R F W U rq (fun _ => false) u rq.length) < (rowE L C T R F W U rq (fun _ => false) t rq.length) := by have := rowE_mono (sl := fun _ => false) hk hq (show 0 ≤ t by omega) (show t ≤ u by omega) (by omega) (Nat.le_refl rq.length); omega
            obtain ⟨e0, e1⟩ := rowE_bd (sl := fun _ => false) hk hq (show 0 ≤ t by omega) (by omega) (Nat.le_refl rq.length)
            have hpe : (rowE L C T R F W U rq (fun _ => false) (IntKind.i64.wrap (t + lenF L C T R F W U)) rq.length) = IntKind.i64.wrap ((rowE L C T R F W U rq (fun _ => false) t rq.length) + lenF L C T R F W U) := by rw [hwr, hlen, rowE_per hk hq (by omega) (by omega) (Nat.le_refl _), wrap_in (by omega) (by omega)]
            have hll : (rq.length : Int) = (rq.length : Int) := rfl
            have hK : AV.bool (decide ((rowE L C T R F W U rq (fun _ => false) t rq.length) = (rowE L C T R F W U rq (fun _ => false) t rq.length))) = AV.bool true := by rw [decide_eq_true rfl]
            have hma : decide ((rowE L C T R F W U rq (fun _ => false) u rq.length) < (rowE L C T R F W U rq (fun _ => false) t rq.length)) = false := decide_eq_false hm
            have hmb : (!decide ((rowE L C T R F W U rq (fun _ => false) u rq.length) < (rowE L C T R F W U rq (fun _ => false) t rq.length))) = true := by rw [hma]; rfl
            have hmc : (!!decide ((rowE L C T R F W U rq (fun _ => false) u rq.length) < (rowE L C T R F W U rq (fun _ => false) t rq.length))) = false := by rw [hma]; rfl
            have hpea : decide ((rowE L C T R F W U rq (fun _ => false) (IntKind.i64.wrap (t + lenF L C T R F W U)) rq.length) = IntKind.i64.wrap ((rowE L C T R F W U rq (fun _ => false) t rq.length) + lenF L C T R F W U)) = true := decide_eq_true hpe
            have hpeb : (!decide ((rowE L C T R F W U rq (fun _ => false) (IntKind.i64.wrap (t + lenF L C T R F W U)) rq.length) = IntKind.i64.wrap ((rowE L C T R F W U rq (fun _ => false) t rq.length) + lenF L C T R F W U))) = false := by rw [hpea]; rfl
            have hpec : (!!decide ((rowE L C T R F W U rq (fun _ => false) (IntKind.i64.wrap (t + lenF L C T R F W U)) rq.length) = IntKind.i64.wrap ((rowE L C T R F W U rq (fun _ => false) t rq.length) + lenF L C T R F W U))) = true := by rw [hpea]; rfl
            have hlla : decide ((rq.length : Int) = (rq.length : Int)) = true := decide_eq_true hll
            have hllb : (!decide ((rq.length : Int) = (rq.length : Int))) = false := by rw [hlla]; rfl
            have hllc : (!!decide ((rq.length : Int) = (rq.length : Int))) = true := by rw [hlla]; rfl
            repeat' first
              | assumption
              | exact rfl
              | refine both_t (by assumption) ?_
              | refine both_f (by assumption) ?_
              | exact ⟨rfl, ⟨.inr ⟨pfs_qF, rfl⟩, .inr ⟨hb, rfl⟩, ⟨rfl, .inr ⟨rfl, rfl⟩⟩, trivial⟩, rfl, ⟨rfl, rfl, rfl, rfl, rfl, rfl, trivial⟩⟩
              | exact ⟨rfl, ⟨.inr ⟨pfs_qF, rfl⟩, .inr ⟨hb, rfl⟩, ⟨rfl, .inr ⟨rfl, rfl⟩⟩, ⟨rfl, rfl, .inr ⟨pfs_encI, rfl⟩⟩, trivial⟩, rfl, ⟨rfl, rfl, rfl, rfl, rfl, rfl, rfl, trivial⟩⟩
              | exact ⟨hb, hn, hq⟩
              | exact ho1
              | exact ho2
              | exact ho3
              | exact hcond
              | exact le_23
              | exact le_24
              | exact le_25
              | exact hK
              | refine And.intro ?_ ?_
    · have hka : decide (okF L C T R F W U = true) = false := decide_eq_false hk
      have hkb : (!decide (okF L C T R F W U = true)) = true := by rw [hka]; rfl
      have hkc : (!!decide (okF L C T R F W U = true)) = false := by rw [hka]; rfl
      have ke : (if okF L C T R F W U = true then (0 : Int) else (2 : Int)) = 2 := by rw [if_neg hk]
      have kea : decide ((if okF L C T R F W U = true then (0 : Int) else (2 : Int)) = (0 : Int)) = false := by rw [ke]; rfl
      have keb : (!decide ((if okF L C T R F W U = true then (0 : Int) else (2 : Int)) = (0 : Int))) = true := by rw [ke]; rfl
      have kec : (!!decide ((if okF L C T R F W U = true then (0 : Int) else (2 : Int)) = (0 : Int))) = false := by rw [ke]; rfl
      repeat' first
        | assumption
        | exact rfl
        | refine both_t (by assumption) ?_
        | refine both_f (by assumption) ?_
        | refine And.intro ?_ ?_
theorem lwE_sc {L C T R F W U t u : Int} {rq : List Rq} {bs : List AV} {c : Nat} (hb : pfs bs = true) (hp : 0 < rq.length) (hq : rqsOk rq) : SC Try.prog 14 [.agg [.int .i64 L, .int .i64 C, .int .i64 T, .int .i64 R, .int .i64 F, .int .i64 W, .int .i64 U], .slice 0 0 rq.length (some c), (.slice 1 0 0 none), .int .i64 t, .int .i64 u] ⟨2, [(1, .ro bs), (0, .ro (qF rq))]⟩ (fun v _ => v = .bool true) := by
  refine sc_of_vcH (XLwE_ok L C T R F W U t u rq bs c) (by kernel_rfl) ?_ (lwE_vc L C T R F W U t u rq bs c _) (lwE_ok hb hp hq)
  · intro p hp' l hl
    rw [show (XLwE L C T R F W U t u rq bs c).P = Try.prog from rfl, rw2_loops] at hp'
    simp only [List.mem_cons, List.not_mem_nil, or_false] at hp'
    rcases hp' with rfl | rfl
    · cases hl; exact LChE_ok L C T R F W U t u rq bs c
    · cases hl; exact LCmE_ok L C T R F W U t u rq bs c
theorem lbE_ok {L C T R F W U t u : Int} {rq : List Rq} {bs : List AV} {c : Nat} (hb : pfs bs = true) (hp : 0 < rq.length) (hq : ¬ rqsOk rq) : lbE_VC L C T R F W U t u rq bs c (fun v _ => v = .bool true) := by
  unfold lbE_VC
  by_cases gl : (rq.length : Int) > 40
  · have gla : decide ((rq.length : Int) > 40) = true := decide_eq_true gl
    have glb : (!decide ((rq.length : Int) > 40)) = false := by rw [gla]; rfl
    have glc : (!!decide ((rq.length : Int) > 40)) = true := by rw [gla]; rfl
    repeat' first
      | assumption
      | exact rfl
      | refine both_t (by assumption) ?_
      | refine both_f (by assumption) ?_
      | refine And.intro ?_ ?_
  · have gla : decide ((rq.length : Int) > 40) = false := decide_eq_false gl
    have glb : (!decide ((rq.length : Int) > 40)) = true := by rw [gla]; rfl
    have glc : (!!decide ((rq.length : Int) > 40)) = false := by rw [gla]; rfl
    by_cases hk : okF L C T R F W U = true
    · have hka : decide (okF L C T R F W U = true) = true := decide_eq_true hk
      have hkb : (!decide (okF L C T R F W U = true)) = false := by rw [hka]; rfl
      have hkc : (!!decide (okF L C T R F W U = true)) = true := by rw [hka]; rfl
      have ke : (if okF L C T R F W U = true then (0 : Int) else (2 : Int)) = 0 := by rw [if_pos hk]
      have kea : decide ((if okF L C T R F W U = true then (0 : Int) else (2 : Int)) = (0 : Int)) = true := by rw [ke]; rfl
      have keb : (!decide ((if okF L C T R F W U = true then (0 : Int) else (2 : Int)) = (0 : Int))) = false := by rw [ke]; rfl
      have kec : (!!decide ((if okF L C T R F W U = true then (0 : Int) else (2 : Int)) = (0 : Int))) = true := by rw [ke]; rfl
      by_cases g0 : t < (0 : Int)
      · have g0a : decide (t < (0 : Int)) = true := decide_eq_true g0
        have g0b : (!decide (t < (0 : Int))) = false := by rw [g0a]; rfl
        have g0c : (!!decide (t < (0 : Int))) = true := by rw [g0a]; rfl
        repeat' first
          | assumption
          | exact rfl
          | refine both_t (by assumption) ?_
          | refine both_f (by assumption) ?_
          | refine And.intro ?_ ?_
      · have g0a : decide (t < (0 : Int)) = false := decide_eq_false g0
        have g0b : (!decide (t < (0 : Int))) = true := by rw [g0a]; rfl
        have g0c : (!!decide (t < (0 : Int))) = false := by rw [g0a]; rfl
        by_cases g1 : t > u
        · have g1a : decide (t > u) = true := decide_eq_true g1
          have g1b : (!decide (t > u)) = false := by rw [g1a]; rfl
          have g1c : (!!decide (t > u)) = true := by rw [g1a]; rfl
          repeat' first
            | assumption
            | exact rfl
            | refine both_t (by assumption) ?_
            | refine both_f (by assumption) ?_
            | refine And.intro ?_ ?_
        · have g1a : decide (t > u) = false := decide_eq_false g1
          have g1b : (!decide (t > u)) = true := by rw [g1a]; rfl
          have g1c : (!!decide (t > u)) = false := by rw [g1a]; rfl
          by_cases g2 : u > (549755813888 : Int)
          · have g2a : decide (u > (549755813888 : Int)) = true := decide_eq_true g2
            have g2b : (!decide (u > (549755813888 : Int))) = false := by rw [g2a]; rfl
            have g2c : (!!decide (u > (549755813888 : Int))) = true := by rw [g2a]; rfl
            repeat' first
              | assumption
              | exact rfl
              | refine both_t (by assumption) ?_
              | refine both_f (by assumption) ?_
              | refine And.intro ?_ ?_
          · have g2a : decide (u > (549755813888 : Int)) = false := decide_eq_false g2
            have g2b : (!decide (u > (549755813888 : Int))) = true := by rw [g2a]; rfl
            have g2c : (!!decide (u > (549755813888 : Int))) = false := by rw [g2a]; rfl
            have hn : rq.length ≤ 60 := by omega
            repeat' first
              | assumption
              | exact rfl
              | refine both_t (by assumption) ?_
              | refine both_f (by assumption) ?_
              | exact ⟨rfl, ⟨.inr ⟨pfs_qF, rfl⟩, .inr ⟨hb, rfl⟩, ⟨rfl, .inr ⟨rfl, rfl⟩⟩, trivial⟩, rfl, ⟨rfl, rfl, rfl, rfl, rfl, rfl, trivial⟩⟩
              | exact ⟨hb, hn, hq⟩
              | refine And.intro ?_ ?_
    · have hka : decide (okF L C T R F W U = true) = false := decide_eq_false hk
      have hkb : (!decide (okF L C T R F W U = true)) = true := by rw [hka]; rfl
      have hkc : (!!decide (okF L C T R F W U = true)) = false := by rw [hka]; rfl
      have ke : (if okF L C T R F W U = true then (0 : Int) else (2 : Int)) = 2 := by rw [if_neg hk]
      have kea : decide ((if okF L C T R F W U = true then (0 : Int) else (2 : Int)) = (0 : Int)) = false := by rw [ke]; rfl
      have keb : (!decide ((if okF L C T R F W U = true then (0 : Int) else (2 : Int)) = (0 : Int))) = true := by rw [ke]; rfl
      have kec : (!!decide ((if okF L C T R F W U = true then (0 : Int) else (2 : Int)) = (0 : Int))) = false := by rw [ke]; rfl
      repeat' first
        | assumption
        | exact rfl
        | refine both_t (by assumption) ?_
        | refine both_f (by assumption) ?_
        | refine And.intro ?_ ?_
theorem lbE_sc {L C T R F W U t u : Int} {rq : List Rq} {bs : List AV} {c : Nat} (hb : pfs bs = true) (hp : 0 < rq.length) (hq : ¬ rqsOk rq) : SC Try.prog 14 [.agg [.int .i64 L, .int .i64 C, .int .i64 T, .int .i64 R, .int .i64 F, .int .i64 W, .int .i64 U], .slice 0 0 rq.length (some c), (.slice 1 0 0 none), .int .i64 t, .int .i64 u] ⟨2, [(1, .ro bs), (0, .ro (qF rq))]⟩ (fun v _ => v = .bool true) := by
  refine sc_of_vcH (XLbE_ok L C T R F W U t u rq bs c) (by kernel_rfl) ?_ (lbE_vc L C T R F W U t u rq bs c _) (lbE_ok hb hp hq)
  · intro p hp' l hl
    rw [show (XLbE L C T R F W U t u rq bs c).P = Try.prog from rfl, rw2_loops] at hp'
    simp only [List.mem_cons, List.not_mem_nil, or_false] at hp'
    rcases hp' with rfl | rfl
    · cases hl; exact LBdE_ok L C T R F W U t u rq bs c
    · cases hl
theorem rowsE_sc {L C T R F W U t u : Int} {rq : List Rq} {bs : List AV} {c : Nat} (hb : pfs bs = true) (hp : 0 < rq.length) : SC Try.prog 14 [.agg [.int .i64 L, .int .i64 C, .int .i64 T, .int .i64 R, .int .i64 F, .int .i64 W, .int .i64 U], .slice 0 0 rq.length (some c), (.slice 1 0 0 none), .int .i64 t, .int .i64 u] ⟨2, [(1, .ro bs), (0, .ro (qF rq))]⟩ (fun v _ => v = .bool true) := by
  by_cases hq : rqsOk rq
  · exact lwE_sc hb hp hq
  · exact lbE_sc hb hp hq
theorem lwS_ok {L C T R F W U t u : Int} {rq : List Rq} {bl : List Bool} {c cm : Nat} (hb : pfs (bF bl) = true) (hp : 0 < rq.length) (hq : rqsOk rq) : lwS_VC L C T R F W U t u rq bl c cm (fun v _ => v = .bool true) := by
  unfold lwS_VC
  by_cases gl : (rq.length : Int) > 40
  · have gla : decide ((rq.length : Int) > 40) = true := decide_eq_true gl
    have glb : (!decide ((rq.length : Int) > 40)) = false := by rw [gla]; rfl
    have glc : (!!decide ((rq.length : Int) > 40)) = true := by rw [gla]; rfl
    repeat' first
      | assumption
      | exact rfl
      | refine both_t (by assumption) ?_
      | refine both_f (by assumption) ?_
      | refine And.intro ?_ ?_
  · have gla : decide ((rq.length : Int) > 40) = false := decide_eq_false gl
    have glb : (!decide ((rq.length : Int) > 40)) = true := by rw [gla]; rfl
    have glc : (!!decide ((rq.length : Int) > 40)) = false := by rw [gla]; rfl
    by_cases gm : (bl.length : Int) > 40
    · have gma : decide ((bl.length : Int) > 40) = true := decide_eq_true gm
      have gmb : (!decide ((bl.length : Int) > 40)) = false := by rw [gma]; rfl
      have gmc : (!!decide ((bl.length : Int) > 40)) = true := by rw [gma]; rfl
      repeat' first
        | assumption
        | exact rfl
        | refine both_t (by assumption) ?_
        | refine both_f (by assumption) ?_
        | refine And.intro ?_ ?_
    · have gma : decide ((bl.length : Int) > 40) = false := decide_eq_false gm
      have gmb : (!decide ((bl.length : Int) > 40)) = true := by rw [gma]; rfl
      have gmc : (!!decide ((bl.length : Int) > 40)) = false := by rw [gma]; rfl
      by_cases hk : okF L C T R F W U = true
      · have hka : decide (okF L C T R F W U = true) = true := decide_eq_true hk
        have hkb : (!decide (okF L C T R F W U = true)) = false := by rw [hka]; rfl
        have hkc : (!!decide (okF L C T R F W U = true)) = true := by rw [hka]; rfl
        have ke : (if okF L C T R F W U = true then (0 : Int) else (2 : Int)) = 0 := by rw [if_pos hk]
        have kea : decide ((if okF L C T R F W U = true then (0 : Int) else (2 : Int)) = (0 : Int)) = true := by rw [ke]; rfl
        have keb : (!decide ((if okF L C T R F W U = true then (0 : Int) else (2 : Int)) = (0 : Int))) = false := by rw [ke]; rfl
        have kec : (!!decide ((if okF L C T R F W U = true then (0 : Int) else (2 : Int)) = (0 : Int))) = true := by rw [ke]; rfl
        by_cases g0 : t < (0 : Int)
        · have g0a : decide (t < (0 : Int)) = true := decide_eq_true g0
          have g0b : (!decide (t < (0 : Int))) = false := by rw [g0a]; rfl
          have g0c : (!!decide (t < (0 : Int))) = true := by rw [g0a]; rfl
          repeat' first
            | assumption
            | exact rfl
            | refine both_t (by assumption) ?_
            | refine both_f (by assumption) ?_
            | refine And.intro ?_ ?_
        · have g0a : decide (t < (0 : Int)) = false := decide_eq_false g0
          have g0b : (!decide (t < (0 : Int))) = true := by rw [g0a]; rfl
          have g0c : (!!decide (t < (0 : Int))) = false := by rw [g0a]; rfl
          by_cases g1 : t > u
          · have g1a : decide (t > u) = true := decide_eq_true g1
            have g1b : (!decide (t > u)) = false := by rw [g1a]; rfl
            have g1c : (!!decide (t > u)) = true := by rw [g1a]; rfl
            repeat' first
              | assumption
              | exact rfl
              | refine both_t (by assumption) ?_
              | refine both_f (by assumption) ?_
              | refine And.intro ?_ ?_
          · have g1a : decide (t > u) = false := decide_eq_false g1
            have g1b : (!decide (t > u)) = true := by rw [g1a]; rfl
            have g1c : (!!decide (t > u)) = false := by rw [g1a]; rfl
            by_cases g2 : u > (549755813888 : Int)
            · have g2a : decide (u > (549755813888 : Int)) = true := decide_eq_true g2
              have g2b : (!decide (u > (549755813888 : Int))) = false := by rw [g2a]; rfl
              have g2c : (!!decide (u > (549755813888 : Int))) = true := by rw [g2a]; rfl
              repeat' first
                | assumption
                | exact rfl
                | refine both_t (by assumption) ?_
                | refine both_f (by assumption) ?_
                | refine And.intro ?_ ?_
            · have g2a : decide (u > (549755813888 : Int)) = false := decide_eq_false g2
              have g2b : (!decide (u > (549755813888 : Int))) = true := by rw [g2a]; rfl
              have g2c : (!!decide (u > (549755813888 : Int))) = false := by rw [g2a]; rfl
              have hn : rq.length ≤ 60 := by omega
              have hz := okF_sz hk
              have hlen : lenF L C T R F W U = L * C := by simp [lenF, hk]
              have hwr : (IntKind.i64.wrap (t + lenF L C T R F W U)) = t + L * C := by rw [hlen]; exact wrap_in (by omega) (by omega)
              have ho1 : rowOksS L C T R F W U t rq bl := ⟨hb, hn, hp, fun i hi => rowOk_of hk hq (by omega) (by omega) hi⟩
              have ho2 : rowOksS L C T R F W U u rq bl := ⟨hb, hn, hp, fun i hi => rowOk_of hk hq (by omega) (by omega) hi⟩
              have ho3 : rowOksS L C T R F W U (IntKind.i64.wrap (t + lenF L C T R F W U)) rq bl := by rw [hwr]; exact ⟨hb, hn, hp, fun i hi => rowOk_of hk hq (by omega) (by omega) hi⟩
              have hcond : pfs (bF bl) = true ∧ rq.length ≤ 60 ∧ rqsOk rq ∧ okF L C T R F W U = true ∧ (0 : Int) ≤ t ∧ t + 31 * (rq.length : Int) ≤ 1099511626776 := ⟨hb, hn, hq, hk, by omega, by omega⟩
              have hm : ¬ (rowE L C T R F W U rq (fun i => bl.getD i false) u rq.length) < (rowE L C T R F W U rq (fun i => bl.getD i false) t rq.length) := by have := rowE_mono (sl := fun i => bl.getD i false) hk hq (show 0 ≤ t by omega) (show t ≤ u by omega) (by omega) (Nat.le_refl rq.length); omega
              obtain ⟨e0, e1⟩ := rowE_bd (sl := fun i => bl.getD i false) hk hq (show 0 ≤ t by omega) (by omega) (Nat.le_refl rq.length)
              have hpe : (rowE L C T R F W U rq (fun i => bl.getD i false) (IntKind.i64.wrap (t + lenF L C T R F W U)) rq.length) = IntKind.i64.wrap ((rowE L C T R F W U rq (fun i => bl.getD i false) t rq.length) + lenF L C T R F W U) := by rw [hwr, hlen, rowE_per hk hq (by omega) (by omega) (Nat.le_refl _), wrap_in (by omega) (by omega)]
              have hll : (rq.length : Int) = (rq.length : Int) := rfl
              have hK : AV.bool (decide ((rowE L C T R F W U rq (fun i => bl.getD i false) t rq.length) = (rowE L C T R F W U rq (fun i => bl.getD i false) t rq.length))) = AV.bool true := by rw [decide_eq_true rfl]
              have hma : decide ((rowE L C T R F W U rq (fun i => bl.getD i false) u rq.length) < (rowE L C T R F W U rq (fun i => bl.getD i false) t rq.length)) = false := decide_eq_false hm
              have hmb : (!decide ((rowE L C T R F W U rq (fun i => bl.getD i false) u rq.length) < (rowE L C T R F W U rq (fun i => bl.getD i false) t rq.length))) = true := by rw [hma]; rfl
              have hmc : (!!decide ((rowE L C T R F W U rq (fun i => bl.getD i false) u rq.length) < (rowE L C T R F W U rq (fun i => bl.getD i false) t rq.length))) = false := by rw [hma]; rfl
              have hpea : decide ((rowE L C T R F W U rq (fun i => bl.getD i false) (IntKind.i64.wrap (t + lenF L C T R F W U)) rq.length) = IntKind.i64.wrap ((rowE L C T R F W U rq (fun i => bl.getD i false) t rq.length) + lenF L C T R F W U)) = true := decide_eq_true hpe
              have hpeb : (!decide ((rowE L C T R F W U rq (fun i => bl.getD i false) (IntKind.i64.wrap (t + lenF L C T R F W U)) rq.length) = IntKind.i64.wrap ((rowE L C T R F W U rq (fun i => bl.getD i false) t rq.length) + lenF L C T R F W U))) = false := by rw [hpea]; rfl
              have hpec : (!!decide ((rowE L C T R F W U rq (fun i => bl.getD i false) (IntKind.i64.wrap (t + lenF L C T R F W U)) rq.length) = IntKind.i64.wrap ((rowE L C T R F W U rq (fun i => bl.getD i false) t rq.length) + lenF L C T R F W U))) = true := by rw [hpea]; rfl
              have hlla : decide ((rq.length : Int) = (rq.length : Int)) = true := decide_eq_true hll
              have hllb : (!decide ((rq.length : Int) = (rq.length : Int))) = false := by rw [hlla]; rfl
              have hllc : (!!decide ((rq.length : Int) = (rq.length : Int))) = true := by rw [hlla]; rfl
              repeat' first
                | assumption
                | exact rfl
                | refine both_t (by assumption) ?_
                | refine both_f (by assumption) ?_
                | exact ⟨rfl, ⟨.inr ⟨pfs_qF, rfl⟩, .inr ⟨hb, rfl⟩, ⟨rfl, .inr ⟨rfl, rfl⟩⟩, trivial⟩, rfl, ⟨rfl, rfl, rfl, rfl, rfl, rfl, trivial⟩⟩
                | exact ⟨rfl, ⟨.inr ⟨pfs_qF, rfl⟩, .inr ⟨hb, rfl⟩, ⟨rfl, .inr ⟨rfl, rfl⟩⟩, ⟨rfl, rfl, .inr ⟨pfs_encI, rfl⟩⟩, trivial⟩, rfl, ⟨rfl, rfl, rfl, rfl, rfl, rfl, rfl, trivial⟩⟩
                | exact ⟨hb, hn, hq⟩
                | exact ho1
                | exact ho2
                | exact ho3
                | exact hcond
                | exact le_23
                | exact le_24
                | exact le_25
                | exact hK
                | refine And.intro ?_ ?_
      · have hka : decide (okF L C T R F W U = true) = false := decide_eq_false hk
        have hkb : (!decide (okF L C T R F W U = true)) = true := by rw [hka]; rfl
        have hkc : (!!decide (okF L C T R F W U = true)) = false := by rw [hka]; rfl
        have ke : (if okF L C T R F W U = true then (0 : Int) else (2 : Int)) = 2 := by rw [if_neg hk]
        have kea : decide ((if okF L C T R F W U = true then (0 : Int) else (2 : Int)) = (0 : Int)) = false := by rw [ke]; rfl
        have keb : (!decide ((if okF L C T R F W U = true then (0 : Int) else (2 : Int)) = (0 : Int))) = true := by rw [ke]; rfl
        have kec : (!!decide ((if okF L C T R F W U = true then (0 : Int) else (2 : Int)) = (0 : Int))) = false := by rw [ke]; rfl
        repeat' first
          | assumption
          | exact rfl
          | refine both_t (by assumption) ?_
          | refine both_f (by assumption) ?_
          | refine And.intro ?_ ?_
theorem lwS_sc {L C T R F W U t u : Int} {rq : List Rq} {bl : List Bool} {c cm : Nat} (hb : pfs (bF bl) = true) (hp : 0 < rq.length) (hq : rqsOk rq) : SC Try.prog 14 [.agg [.int .i64 L, .int .i64 C, .int .i64 T, .int .i64 R, .int .i64 F, .int .i64 W, .int .i64 U], .slice 0 0 rq.length (some c), (.slice 1 0 bl.length (some cm)), .int .i64 t, .int .i64 u] ⟨2, [(1, .ro (bF bl)), (0, .ro (qF rq))]⟩ (fun v _ => v = .bool true) := by
  refine sc_of_vcH (XLwS_ok L C T R F W U t u rq bl c cm) (by kernel_rfl) ?_ (lwS_vc L C T R F W U t u rq bl c cm _) (lwS_ok hb hp hq)
  · intro p hp' l hl
    rw [show (XLwS L C T R F W U t u rq bl c cm).P = Try.prog from rfl, rw2_loops] at hp'
    simp only [List.mem_cons, List.not_mem_nil, or_false] at hp'
    rcases hp' with rfl | rfl
    · cases hl; exact LChS_ok L C T R F W U t u rq bl c cm
    · cases hl; exact LCmS_ok L C T R F W U t u rq bl c cm
theorem lbS_ok {L C T R F W U t u : Int} {rq : List Rq} {bl : List Bool} {c cm : Nat} (hb : pfs (bF bl) = true) (hp : 0 < rq.length) (hq : ¬ rqsOk rq) : lbS_VC L C T R F W U t u rq bl c cm (fun v _ => v = .bool true) := by
  unfold lbS_VC
  by_cases gl : (rq.length : Int) > 40
  · have gla : decide ((rq.length : Int) > 40) = true := decide_eq_true gl
    have glb : (!decide ((rq.length : Int) > 40)) = false := by rw [gla]; rfl
    have glc : (!!decide ((rq.length : Int) > 40)) = true := by rw [gla]; rfl
    repeat' first
      | assumption
      | exact rfl
      | refine both_t (by assumption) ?_
      | refine both_f (by assumption) ?_
      | refine And.intro ?_ ?_
  · have gla : decide ((rq.length : Int) > 40) = false := decide_eq_false gl
    have glb : (!decide ((rq.length : Int) > 40)) = true := by rw [gla]; rfl
    have glc : (!!decide ((rq.length : Int) > 40)) = false := by rw [gla]; rfl
    by_cases gm : (bl.length : Int) > 40
    · have gma : decide ((bl.length : Int) > 40) = true := decide_eq_true gm
      have gmb : (!decide ((bl.length : Int) > 40)) = false := by rw [gma]; rfl
      have gmc : (!!decide ((bl.length : Int) > 40)) = true := by rw [gma]; rfl
      repeat' first
        | assumption
        | exact rfl
        | refine both_t (by assumption) ?_
        | refine both_f (by assumption) ?_
        | refine And.intro ?_ ?_
    · have gma : decide ((bl.length : Int) > 40) = false := decide_eq_false gm
      have gmb : (!decide ((bl.length : Int) > 40)) = true := by rw [gma]; rfl
      have gmc : (!!decide ((bl.length : Int) > 40)) = false := by rw [gma]; rfl
      by_cases hk : okF L C T R F W U = true
      · have hka : decide (okF L C T R F W U = true) = true := decide_eq_true hk
        have hkb : (!decide (okF L C T R F W U = true)) = false := by rw [hka]; rfl
        have hkc : (!!decide (okF L C T R F W U = true)) = true := by rw [hka]; rfl
        have ke : (if okF L C T R F W U = true then (0 : Int) else (2 : Int)) = 0 := by rw [if_pos hk]
        have kea : decide ((if okF L C T R F W U = true then (0 : Int) else (2 : Int)) = (0 : Int)) = true := by rw [ke]; rfl
        have keb : (!decide ((if okF L C T R F W U = true then (0 : Int) else (2 : Int)) = (0 : Int))) = false := by rw [ke]; rfl
        have kec : (!!decide ((if okF L C T R F W U = true then (0 : Int) else (2 : Int)) = (0 : Int))) = true := by rw [ke]; rfl
        by_cases g0 : t < (0 : Int)
        · have g0a : decide (t < (0 : Int)) = true := decide_eq_true g0
          have g0b : (!decide (t < (0 : Int))) = false := by rw [g0a]; rfl
          have g0c : (!!decide (t < (0 : Int))) = true := by rw [g0a]; rfl
          repeat' first
            | assumption
            | exact rfl
            | refine both_t (by assumption) ?_
            | refine both_f (by assumption) ?_
            | refine And.intro ?_ ?_
        · have g0a : decide (t < (0 : Int)) = false := decide_eq_false g0
          have g0b : (!decide (t < (0 : Int))) = true := by rw [g0a]; rfl
          have g0c : (!!decide (t < (0 : Int))) = false := by rw [g0a]; rfl
          by_cases g1 : t > u
          · have g1a : decide (t > u) = true := decide_eq_true g1
            have g1b : (!decide (t > u)) = false := by rw [g1a]; rfl
            have g1c : (!!decide (t > u)) = true := by rw [g1a]; rfl
            repeat' first
              | assumption
              | exact rfl
              | refine both_t (by assumption) ?_
              | refine both_f (by assumption) ?_
              | refine And.intro ?_ ?_
          · have g1a : decide (t > u) = false := decide_eq_false g1
            have g1b : (!decide (t > u)) = true := by rw [g1a]; rfl
            have g1c : (!!decide (t > u)) = false := by rw [g1a]; rfl
            by_cases g2 : u > (549755813888 : Int)
            · have g2a : decide (u > (549755813888 : Int)) = true := decide_eq_true g2
              have g2b : (!decide (u > (549755813888 : Int))) = false := by rw [g2a]; rfl
              have g2c : (!!decide (u > (549755813888 : Int))) = true := by rw [g2a]; rfl
              repeat' first
                | assumption
                | exact rfl
                | refine both_t (by assumption) ?_
                | refine both_f (by assumption) ?_
                | refine And.intro ?_ ?_
            · have g2a : decide (u > (549755813888 : Int)) = false := decide_eq_false g2
              have g2b : (!decide (u > (549755813888 : Int))) = true := by rw [g2a]; rfl
              have g2c : (!!decide (u > (549755813888 : Int))) = false := by rw [g2a]; rfl
              have hn : rq.length ≤ 60 := by omega
              repeat' first
                | assumption
                | exact rfl
                | refine both_t (by assumption) ?_
                | refine both_f (by assumption) ?_
                | exact ⟨rfl, ⟨.inr ⟨pfs_qF, rfl⟩, .inr ⟨hb, rfl⟩, ⟨rfl, .inr ⟨rfl, rfl⟩⟩, trivial⟩, rfl, ⟨rfl, rfl, rfl, rfl, rfl, rfl, trivial⟩⟩
                | exact ⟨hb, hn, hq⟩
                | refine And.intro ?_ ?_
      · have hka : decide (okF L C T R F W U = true) = false := decide_eq_false hk
        have hkb : (!decide (okF L C T R F W U = true)) = true := by rw [hka]; rfl
        have hkc : (!!decide (okF L C T R F W U = true)) = false := by rw [hka]; rfl
        have ke : (if okF L C T R F W U = true then (0 : Int) else (2 : Int)) = 2 := by rw [if_neg hk]
        have kea : decide ((if okF L C T R F W U = true then (0 : Int) else (2 : Int)) = (0 : Int)) = false := by rw [ke]; rfl
        have keb : (!decide ((if okF L C T R F W U = true then (0 : Int) else (2 : Int)) = (0 : Int))) = true := by rw [ke]; rfl
        have kec : (!!decide ((if okF L C T R F W U = true then (0 : Int) else (2 : Int)) = (0 : Int))) = false := by rw [ke]; rfl
        repeat' first
          | assumption
          | exact rfl
          | refine both_t (by assumption) ?_
          | refine both_f (by assumption) ?_
          | refine And.intro ?_ ?_
theorem lbS_sc {L C T R F W U t u : Int} {rq : List Rq} {bl : List Bool} {c cm : Nat} (hb : pfs (bF bl) = true) (hp : 0 < rq.length) (hq : ¬ rqsOk rq) : SC Try.prog 14 [.agg [.int .i64 L, .int .i64 C, .int .i64 T, .int .i64 R, .int .i64 F, .int .i64 W, .int .i64 U], .slice 0 0 rq.length (some c), (.slice 1 0 bl.length (some cm)), .int .i64 t, .int .i64 u] ⟨2, [(1, .ro (bF bl)), (0, .ro (qF rq))]⟩ (fun v _ => v = .bool true) := by
  refine sc_of_vcH (XLbS_ok L C T R F W U t u rq bl c cm) (by kernel_rfl) ?_ (lbS_vc L C T R F W U t u rq bl c cm _) (lbS_ok hb hp hq)
  · intro p hp' l hl
    rw [show (XLbS L C T R F W U t u rq bl c cm).P = Try.prog from rfl, rw2_loops] at hp'
    simp only [List.mem_cons, List.not_mem_nil, or_false] at hp'
    rcases hp' with rfl | rfl
    · cases hl; exact LBdS_ok L C T R F W U t u rq bl c cm
    · cases hl
theorem rowsS_sc {L C T R F W U t u : Int} {rq : List Rq} {bl : List Bool} {c cm : Nat} (hb : pfs (bF bl) = true) (hp : 0 < rq.length) : SC Try.prog 14 [.agg [.int .i64 L, .int .i64 C, .int .i64 T, .int .i64 R, .int .i64 F, .int .i64 W, .int .i64 U], .slice 0 0 rq.length (some c), (.slice 1 0 bl.length (some cm)), .int .i64 t, .int .i64 u] ⟨2, [(1, .ro (bF bl)), (0, .ro (qF rq))]⟩ (fun v _ => v = .bool true) := by
  by_cases hq : rqsOk rq
  · exact lwS_sc hb hp hq
  · exact lbS_sc hb hp hq
theorem l0NN_ok (L C T R F W U t u : Int) : l0NN_VC L C T R F W U t u (fun v => v = .bool true) := by
  unfold l0NN_VC
  by_cases hk : okF L C T R F W U = true
  · have hka : decide (okF L C T R F W U = true) = true := decide_eq_true hk
    have hkb : (!decide (okF L C T R F W U = true)) = false := by rw [hka]; rfl
    have hkc : (!!decide (okF L C T R F W U = true)) = true := by rw [hka]; rfl
    have ke : (if okF L C T R F W U = true then (0 : Int) else (2 : Int)) = 0 := by rw [if_pos hk]
    have kea : decide ((if okF L C T R F W U = true then (0 : Int) else (2 : Int)) = (0 : Int)) = true := by rw [ke]; rfl
    have keb : (!decide ((if okF L C T R F W U = true then (0 : Int) else (2 : Int)) = (0 : Int))) = false := by rw [ke]; rfl
    have kec : (!!decide ((if okF L C T R F W U = true then (0 : Int) else (2 : Int)) = (0 : Int))) = true := by rw [ke]; rfl
    by_cases g0 : t < (0 : Int)
    · have g0a : decide (t < (0 : Int)) = true := decide_eq_true g0
      have g0b : (!decide (t < (0 : Int))) = false := by rw [g0a]; rfl
      have g0c : (!!decide (t < (0 : Int))) = true := by rw [g0a]; rfl
      repeat' first
        | assumption
        | exact rfl
        | refine both_t (by assumption) ?_
        | refine both_f (by assumption) ?_
        | refine And.intro ?_ ?_
    · have g0a : decide (t < (0 : Int)) = false := decide_eq_false g0
      have g0b : (!decide (t < (0 : Int))) = true := by rw [g0a]; rfl
      have g0c : (!!decide (t < (0 : Int))) = false := by rw [g0a]; rfl
      by_cases g1 : t > u
      · have g1a : decide (t > u) = true := decide_eq_true g1
        have g1b : (!decide (t > u)) = false := by rw [g1a]; rfl
        have g1c : (!!decide (t > u)) = true := by rw [g1a]; rfl
        repeat' first
          | assumption
          | exact rfl
          | refine both_t (by assumption) ?_
          | refine both_f (by assumption) ?_
          | refine And.intro ?_ ?_
      · have g1a : decide (t > u) = false := decide_eq_false g1
        have g1b : (!decide (t > u)) = true := by rw [g1a]; rfl
        have g1c : (!!decide (t > u)) = false := by rw [g1a]; rfl
        by_cases g2 : u > (549755813888 : Int)
        · have g2a : decide (u > (549755813888 : Int)) = true := decide_eq_true g2
          have g2b : (!decide (u > (549755813888 : Int))) = false := by rw [g2a]; rfl
          have g2c : (!!decide (u > (549755813888 : Int))) = true := by rw [g2a]; rfl
          repeat' first
            | assumption
            | exact rfl
            | refine both_t (by assumption) ?_
            | refine both_f (by assumption) ?_
            | refine And.intro ?_ ?_
        · have g2a : decide (u > (549755813888 : Int)) = false := decide_eq_false g2
          have g2b : (!decide (u > (549755813888 : Int))) = true := by rw [g2a]; rfl
          have g2c : (!!decide (u > (549755813888 : Int))) = false := by rw [g2a]; rfl
          have hm : ¬ u < t := by omega
          have hma : decide (u < t) = false := decide_eq_false hm
          have hmb : (!decide (u < t)) = true := by rw [hma]; rfl
          have hmc : (!!decide (u < t)) = false := by rw [hma]; rfl
          have hw : (IntKind.i64.wrap (t + lenF L C T R F W U)) = (IntKind.i64.wrap (t + lenF L C T R F W U)) := rfl
          have hwa : decide ((IntKind.i64.wrap (t + lenF L C T R F W U)) = (IntKind.i64.wrap (t + lenF L C T R F W U))) = true := decide_eq_true hw
          have hwb : (!decide ((IntKind.i64.wrap (t + lenF L C T R F W U)) = (IntKind.i64.wrap (t + lenF L C T R F W U)))) = false := by rw [hwa]; rfl
          have hwc : (!!decide ((IntKind.i64.wrap (t + lenF L C T R F W U)) = (IntKind.i64.wrap (t + lenF L C T R F W U)))) = true := by rw [hwa]; rfl
          have hK : AV.bool (decide (t = t)) = AV.bool true := by rw [decide_eq_true rfl]
          repeat' first
            | assumption
            | exact rfl
            | refine both_t (by assumption) ?_
            | refine both_f (by assumption) ?_
            | exact hK
            | refine And.intro ?_ ?_
  · have hka : decide (okF L C T R F W U = true) = false := decide_eq_false hk
    have hkb : (!decide (okF L C T R F W U = true)) = true := by rw [hka]; rfl
    have hkc : (!!decide (okF L C T R F W U = true)) = false := by rw [hka]; rfl
    have ke : (if okF L C T R F W U = true then (0 : Int) else (2 : Int)) = 2 := by rw [if_neg hk]
    have kea : decide ((if okF L C T R F W U = true then (0 : Int) else (2 : Int)) = (0 : Int)) = false := by rw [ke]; rfl
    have keb : (!decide ((if okF L C T R F W U = true then (0 : Int) else (2 : Int)) = (0 : Int))) = true := by rw [ke]; rfl
    have kec : (!!decide ((if okF L C T R F W U = true then (0 : Int) else (2 : Int)) = (0 : Int))) = false := by rw [ke]; rfl
    repeat' first
      | assumption
      | exact rfl
      | refine both_t (by assumption) ?_
      | refine both_f (by assumption) ?_
      | refine And.intro ?_ ?_
theorem rows0NN_sc (L C T R F W U t u : Int) : SC Try.prog 14 [.agg [.int .i64 L, .int .i64 C, .int .i64 T, .int .i64 R, .int .i64 F, .int .i64 W, .int .i64 U], .nilslice, .nilslice, .int .i64 t, .int .i64 u] h0 (fun v _ => v = .bool true) :=
  sc_of_vc XCo5_ok (by kernel_rfl) (l0NN_vc L C T R F W U t u _) (l0NN_ok L C T R F W U t u)
theorem l0NE_ok (L C T R F W U t u : Int) : l0NE_VC L C T R F W U t u (fun v => v = .bool true) := by
  unfold l0NE_VC
  by_cases hk : okF L C T R F W U = true
  · have hka : decide (okF L C T R F W U = true) = true := decide_eq_true hk
    have hkb : (!decide (okF L C T R F W U = true)) = false := by rw [hka]; rfl
    have hkc : (!!decide (okF L C T R F W U = true)) = true := by rw [hka]; rfl
    have ke : (if okF L C T R F W U = true then (0 : Int) else (2 : Int)) = 0 := by rw [if_pos hk]
    have kea : decide ((if okF L C T R F W U = true then (0 : Int) else (2 : Int)) = (0 : Int)) = true := by rw [ke]; rfl
    have keb : (!decide ((if okF L C T R F W U = true then (0 : Int) else (2 : Int)) = (0 : Int))) = false := by rw [ke]; rfl
    have kec : (!!decide ((if okF L C T R F W U = true then (0 : Int) else (2 : Int)) = (0 : Int))) = true := by rw [ke]; rfl
    by_cases g0 : t < (0 : Int)
    · have g0a : decide (t < (0 : Int)) = true := decide_eq_true g0
      have g0b : (!decide (t < (0 : Int))) = false := by rw [g0a]; rfl
      have g0c : (!!decide (t < (0 : Int))) = true := by rw [g0a]; rfl
      repeat' first
        | assumption
        | exact rfl
        | refine both_t (by assumption) ?_
        | refine both_f (by assumption) ?_
        | refine And.intro ?_ ?_
    · have g0a : decide (t < (0 : Int)) = false := decide_eq_false g0
      have g0b : (!decide (t < (0 : Int))) = true := by rw [g0a]; rfl
      have g0c : (!!decide (t < (0 : Int))) = false := by rw [g0a]; rfl
      by_cases g1 : t > u
      · have g1a : decide (t > u) = true := decide_eq_true g1
        have g1b : (!decide (t > u)) = false := by rw [g1a]; rfl
        have g1c : (!!decide (t > u)) = true := by rw [g1a]; rfl
        repeat' first
          | assumption
          | exact rfl
          | refine both_t (by assumption) ?_
          | refine both_f (by assumption) ?_
          | refine And.intro ?_ ?_
      · have g1a : decide (t > u) = false := decide_eq_false g1
        have g1b : (!decide (t > u)) = true := by rw [g1a]; rfl
        have g1c : (!!decide (t > u)) = false := by rw [g1a]; rfl
        by_cases g2 : u > (549755813888 : Int)
        · have g2a : decide (u > (549755813888 : Int)) = true := decide_eq_true g2
          have g2b : (!decide (u > (549755813888 : Int))) = false := by rw [g2a]; rfl
          have g2c : (!!decide (u > (549755813888 : Int))) = true := by rw [g2a]; rfl
          repeat' first
            | assumption
            | exact rfl
            | refine both_t (by assumption) ?_
            | refine both_f (by assumption) ?_
            | refine And.intro ?_ ?_
        · have g2a : decide (u > (549755813888 : Int)) = false := decide_eq_false g2
          have g2b : (!decide (u > (549755813888 : Int))) = true := by rw [g2a]; rfl
          have g2c : (!!decide (u > (549755813888 : Int))) = false := by rw [g2a]; rfl
          have hm : ¬ u < t := by omega
          have hma : decide (u < t) = false := decide_eq_false hm
          have hmb : (!decide (u < t)) = true := by rw [hma]; rfl
          have hmc : (!!decide (u < t)) = false := by rw [hma]; rfl
          have hw : (IntKind.i64.wrap (t + lenF L C T R F W U)) = (IntKind.i64.wrap (t + lenF L C T R F W U)) := rfl
          have hwa : decide ((IntKind.i64.wrap (t + lenF L C T R F W U)) = (IntKind.i64.wrap (t + lenF L C T R F W U))) = true := decide_eq_true hw
          have hwb : (!decide ((IntKind.i64.wrap (t + lenF L C T R F W U)) = (IntKind.i64.wrap (t + lenF L C T R F W U)))) = false := by rw [hwa]; rfl
          have hwc : (!!decide ((IntKind.i64.wrap (t + lenF L C T R F W U)) = (IntKind.i64.wrap (t + lenF L C T R F W U)))) = true := by rw [hwa]; rfl
          have hK : AV.bool (decide (t = t)) = AV.bool true := by rw [decide_eq_true rfl]
          repeat' first
            | assumption
            | exact rfl
            | refine both_t (by assumption) ?_
            | refine both_f (by assumption) ?_
            | exact hK
            | refine And.intro ?_ ?_
  · have hka : decide (okF L C T R F W U = true) = false := decide_eq_false hk
    have hkb : (!decide (okF L C T R F W U = true)) = true := by rw [hka]; rfl
    have hkc : (!!decide (okF L C T R F W U = true)) = false := by rw [hka]; rfl
    have ke : (if okF L C T R F W U = true then (0 : Int) else (2 : Int)) = 2 := by rw [if_neg hk]
    have kea : decide ((if okF L C T R F W U = true then (0 : Int) else (2 : Int)) = (0 : Int)) = false := by rw [ke]; rfl
    have keb : (!decide ((if okF L C T R F W U = true then (0 : Int) else (2 : Int)) = (0 : Int))) = true := by rw [ke]; rfl
    have kec : (!!decide ((if okF L C T R F W U = true then (0 : Int) else (2 : Int)) = (0 : Int))) = false := by rw [ke]; rfl
    repeat' first
      | assumption
      | exact rfl
      | refine both_t (by assumption) ?_
      | refine both_f (by assumption) ?_
      | refine And.intro ?_ ?_
theorem rows0NE_sc (L C T R F W U t u : Int) : SC Try.prog 14 [.agg [.int .i64 L, .int .i64 C, .int .i64 T, .int .i64 R, .int .i64 F, .int .i64 W, .int .i64 U], .nilslice, (.slice 0 0 0 none), .int .i64 t, .int .i64 u] h0 (fun v _ => v = .bool true) :=
  sc_of_vc XCo5_ok (by kernel_rfl) (l0NE_vc L C T R F W U t u _) (l0NE_ok L C T R F W U t u)
theorem l0NS_ok (L C T R F W U t u : Int) (bl : List Bool) (cm : Nat) : l0NS_VC L C T R F W U t u bl cm (fun v _ => v = .bool true) := by
  unfold l0NS_VC
  by_cases gm : (bl.length : Int) > 40
  · have gma : decide ((bl.length : Int) > 40) = true := decide_eq_true gm
    have gmb : (!decide ((bl.length : Int) > 40)) = false := by rw [gma]; rfl
    have gmc : (!!decide ((bl.length : Int) > 40)) = true := by rw [gma]; rfl
    repeat' first
      | assumption
      | exact rfl
      | refine both_t (by assumption) ?_
      | refine both_f (by assumption) ?_
      | refine And.intro ?_ ?_
  · have gma : decide ((bl.length : Int) > 40) = false := decide_eq_false gm
    have gmb : (!decide ((bl.length : Int) > 40)) = true := by rw [gma]; rfl
    have gmc : (!!decide ((bl.length : Int) > 40)) = false := by rw [gma]; rfl
    by_cases hk : okF L C T R F W U = true
    · have hka : decide (okF L C T R F W U = true) = true := decide_eq_true hk
      have hkb : (!decide (okF L C T R F W U = true)) = false := by rw [hka]; rfl
      have hkc : (!!decide (okF L C T R F W U = true)) = true := by rw [hka]; rfl
      have ke : (if okF L C T R F W U = true then (0 : Int) else (2 : Int)) = 0 := by rw [if_pos hk]
      have kea : decide ((if okF L C T R F W U = true then (0 : Int) else (2 : Int)) = (0 : Int)) = true := by rw [ke]; rfl
      have keb : (!decide ((if okF L C T R F W U = true then (0 : Int) else (2 : Int)) = (0 : Int))) = false := by rw [ke]; rfl
      have kec : (!!decide ((if okF L C T R F W U = true then (0 : Int) else (2 : Int)) = (0 : Int))) = true := by rw [ke]; rfl
      by_cases g0 : t < (0 : Int)
      · have g0a : decide (t < (0 : Int)) = true := decide_eq_true g0
        have g0b : (!decide (t < (0 : Int))) = false := by rw [g0a]; rfl
        have g0c : (!!decide (t < (0 : Int))) = true := by rw [g0a]; rfl
        repeat' first
          | assumption
          | exact rfl
          | refine both_t (by assumption) ?_
          | refine both_f (by assumption) ?_
          | refine And.intro ?_ ?_
      · have g0a : decide (t < (0 : Int)) = false := decide_eq_false g0
        have g0b : (!decide (t < (0 : Int))) = true := by rw [g0a]; rfl
        have g0c : (!!decide (t < (0 : Int))) = false := by rw [g0a]; rfl
        by_cases g1 : t > u
        · have g1a : decide (t > u) = true := decide_eq_true g1
          have g1b : (!decide (t > u)) = false := by rw [g1a]; rfl
          have g1c : (!!decide (t > u)) = true := by rw [g1a]; rfl
          repeat' first
            | assumption
            | exact rfl
            | refine both_t (by assumption) ?_
            | refine both_f (by assumption) ?_
            | refine And.intro ?_ ?_
        · have g1a : decide (t > u) = false := decide_eq_false g1
          have g1b : (!decide (t > u)) = true := by rw [g1a]; rfl
          have g1c : (!!decide (t > u)) = false := by rw [g1a]; rfl
          by_cases g2 : u > (549755813888 : Int)
          · have g2a : decide (u > (549755813888 : Int)) = true := decide_eq_true g2
            have g2b : (!decide (u > (549755813888 : Int))) = false := by rw [g2a]; rfl
            have g2c : (!!decide (u > (549755813888 : Int))) = true := by rw [g2a]; rfl
            repeat' first
              | assumption
              | exact rfl
              | refine both_t (by assumption) ?_
              | refine both_f (by assumption) ?_
              | refine And.intro ?_ ?_
          · have g2a : decide (u > (549755813888 : Int)) = false := decide_eq_false g2
            have g2b : (!decide (u > (549755813888 : Int))) = true := by rw [g2a]; rfl
            have g2c : (!!decide (u > (549755813888 : Int))) = false := by rw [g2a]; rfl
            have hm : ¬ u < t := by omega
            have hma : decide (u < t) = false := decide_eq_false hm
            have hmb : (!decide (u < t)) = true := by rw [hma]; rfl
            have hmc : (!!decide (u < t)) = false := by rw [hma]; rfl
            have hw : (IntKind.i64.wrap (t + lenF L C T R F W U)) = (IntKind.i64.wrap (t + lenF L C T R F W U)) := rfl
            have hwa : decide ((IntKind.i64.wrap (t + lenF L C T R F W U)) = (IntKind.i64.wrap (t + lenF L C T R F W U))) = true := decide_eq_true hw
            have hwb : (!decide ((IntKind.i64.wrap (t + lenF L C T R F W U)) = (IntKind.i64.wrap (t + lenF L C T R F W U)))) = false := by rw [hwa]; rfl
            have hwc : (!!decide ((IntKind.i64.wrap (t + lenF L C T R F W U)) = (IntKind.i64.wrap (t + lenF L C T R F W U)))) = true := by rw [hwa]; rfl
            have hK : AV.bool (decide (t = t)) = AV.bool true := by rw [decide_eq_true rfl]
            repeat' first
              | assumption
              | exact rfl
              | refine both_t (by assumption) ?_
              | refine both_f (by assumption) ?_
              | exact hK
              | refine And.intro ?_ ?_
    · have hka : decide (okF L C T R F W U = true) = false := decide_eq_false hk
      have hkb : (!decide (okF L C T R F W U = true)) = true := by rw [hka]; rfl
      have hkc : (!!decide (okF L C T R F W U = true)) = false := by rw [hka]; rfl
      have ke : (if okF L C T R F W U = true then (0 : Int) else (2 : Int)) = 2 := by rw [if_neg hk]
      have kea : decide ((if okF L C T R F W U = true then (0 : Int) else (2 : Int)) = (0 : Int)) = false := by rw [ke]; rfl
      have keb : (!decide ((if okF L C T R F W U = true then (0 : Int) else (2 : Int)) = (0 : Int))) = true := by rw [ke]; rfl
      have kec : (!!decide ((if okF L C T R F W U = true then (0 : Int) else (2 : Int)) = (0 : Int))) = false := by rw [ke]; rfl
      repeat' first
        | assumption
        | exact rfl
        | refine both_t (by assumption) ?_
        | refine both_f (by assumption) ?_
        | refine And.intro ?_ ?_
theorem rows0NS_sc (L C T R F W U t u : Int) (bl : List Bool) (cm : Nat) : SC Try.prog 14 [.agg [.int .i64 L, .int .i64 C, .int .i64 T, .int .i64 R, .int .i64 F, .int .i64 W, .int .i64 U], .nilslice, (.slice 0 0 bl.length (some cm)), .int .i64 t, .int .i64 u] ⟨1, [(0, .ro (bF bl))]⟩ (fun v _ => v = .bool true) :=
  sc_of_vcH XCo5_ok (by kernel_rfl) (fun p _ L hL => by cases hL) (l0NS_vc L C T R F W U t u bl cm _) (l0NS_ok L C T R F W U t u bl cm)
theorem l0EN_ok (L C T R F W U t u : Int) : l0EN_VC L C T R F W U t u (fun v => v = .bool true) := by
  unfold l0EN_VC
  by_cases hk : okF L C T R F W U = true
  · have hka : decide (okF L C T R F W U = true) = true := decide_eq_true hk
    have hkb : (!decide (okF L C T R F W U = true)) = false := by rw [hka]; rfl
    have hkc : (!!decide (okF L C T R F W U = true)) = true := by rw [hka]; rfl
    have ke : (if okF L C T R F W U = true then (0 : Int) else (2 : Int)) = 0 := by rw [if_pos hk]
    have kea : decide ((if okF L C T R F W U = true then (0 : Int) else (2 : Int)) = (0 : Int)) = true := by rw [ke]; rfl
    have keb : (!decide ((if okF L C T R F W U = true then (0 : Int) else (2 : Int)) = (0 : Int))) = false := by rw [ke]; rfl
    have kec : (!!decide ((if okF L C T R F W U = true then (0 : Int) else (2 : Int)) = (0 : Int))) = true := by rw [ke]; rfl
    by_cases g0 : t < (0 : Int)
    · have g0a : decide (t < (0 : Int)) = true := decide_eq_true g0
      have g0b : (!decide (t < (0 : Int))) = false := by rw [g0a]; rfl
      have g0c : (!!decide (t < (0 : Int))) = true := by rw [g0a]; rfl
      repeat' first
        | assumption
        | exact rfl
        | refine both_t (by assumption) ?_
        | refine both_f (by assumption) ?_
        | refine And.intro ?_ ?_
    · have g0a : decide (t < (0 : Int)) = false := decide_eq_false g0
      have g0b : (!decide (t < (0 : Int))) = true := by rw [g0a]; rfl
      have g0c : (!!decide (t < (0 : Int))) = false := by rw [g0a]; rfl
      by_cases g1 : t > u
      · have g1a : decide (t > u) = true := decide_eq_true g1
        have g1b : (!decide (t > u)) = false := by rw [g1a]; rfl
        have g1c : (!!decide (t > u)) = true := by rw [g1a]; rfl
        repeat' first
          | assumption
          | exact rfl
          | refine both_t (by assumption) ?_
          | refine both_f (by assumption) ?_
          | refine And.intro ?_ ?_
      · have g1a : decide (t > u) = false := decide_eq_false g1
        have g1b : (!decide (t > u)) = true := by rw [g1a]; rfl
        have g1c : (!!decide (t > u)) = false := by rw [g1a]; rfl
        by_cases g2 : u > (549755813888 : Int)
        · have g2a : decide (u > (549755813888 : Int)) = true := decide_eq_true g2
          have g2b : (!decide (u > (549755813888 : Int))) = false := by rw [g2a]; rfl
          have g2c : (!!decide (u > (549755813888 : Int))) = true := by rw [g2a]; rfl
          repeat' first
            | assumption
            | exact rfl
            | refine both_t (by assumption) ?_
            | refine both_f (by assumption) ?_
            | refine And.intro ?_ ?_
        · have g2a : decide (u > (549755813888 : Int)) = false := decide_eq_false g2
          have g2b : (!decide (u > (549755813888 : Int))) = true := by rw [g2a]; rfl
          have g2c : (!!decide (u > (549755813888 : Int))) = false := by rw [g2a]; rfl
          have hm : ¬ u < t := by omega
          have hma : decide (u < t) = false := decide_eq_false hm
          have hmb : (!decide (u < t)) = true := by rw [hma]; rfl
          have hmc : (!!decide (u < t)) = false := by rw [hma]; rfl
          have hw : (IntKind.i64.wrap (t + lenF L C T R F W U)) = (IntKind.i64.wrap (t + lenF L C T R F W U)) := rfl
          have hwa : decide ((IntKind.i64.wrap (t + lenF L C T R F W U)) = (IntKind.i64.wrap (t + lenF L C T R F W U))) = true := decide_eq_true hw
          have hwb : (!decide ((IntKind.i64.wrap (t + lenF L C T R F W U)) = (IntKind.i64.wrap (t + lenF L C T R F W U)))) = false := by rw [hwa]; rfl
          have hwc : (!!decide ((IntKind.i64.wrap (t + lenF L C T R F W U)) = (IntKind.i64.wrap (t + lenF L C T R F W U)))) = true := by rw [hwa]; rfl
          have hK : AV.bool (decide (t = t)) = AV.bool true := by rw [decide_eq_true rfl]
          repeat' first
            | assumption
            | exact rfl
            | refine both_t (by assumption) ?_
            | refine both_f (by assumption) ?_
            | exact hK
            | refine And.intro ?_ ?_
  · have hka : decide (okF L C T R F W U = true) = false := decide_eq_false hk
    have hkb : (!decide (okF L C T R F W U = true)) = true := by rw [hka]; rfl
    have hkc : (!!decide (okF L C T R F W U = true)) = false := by rw [hka]; rfl
    have ke : (if okF L C T R F W U = true then (0 : Int) else (2 : Int)) = 2 := by rw [if_neg hk]
    have kea : decide ((if okF L C T R F W U = true then (0 : Int) else (2 : Int)) = (0 : Int)) = false := by rw [ke]; rfl
    have keb : (!decide ((if okF L C T R F W U = true then (0 : Int) else (2 : Int)) = (0 : Int))) = true := by rw [ke]; rfl
    have kec : (!!decide ((if okF L C T R F W U = true then (0 : Int) else (2 : Int)) = (0 : Int))) = false := by rw [ke]; rfl
    repeat' first
      | assumption
      | exact rfl
      | refine both_t (by assumption) ?_
      | refine both_f (by assumption) ?_
      | refine And.intro ?_ ?_
theorem rows0EN_sc (L C T R F W U t u : Int) : SC Try.prog 14 [.agg [.int .i64 L, .int .i64 C, .int .i64 T, .int .i64 R, .int .i64 F, .int .i64 W, .int .i64 U], (.slice 0 0 0 none), .nilslice, .int .i64 t, .int .i64 u] h0 (fun v _ => v = .bool true) :=
  sc_of_vc XCo5_ok (by kernel_rfl) (l0EN_vc L C T R F W U t u _) (l0EN_ok L C T R F W U t u)
theorem l0EE_ok (L C T R F W U t u : Int) : l0EE_VC L C T R F W U t u (fun v => v = .bool true) := by
  unfold l0EE_VC
  by_cases hk : okF L C T R F W U = true
  · have hka : decide (okF L C T R F W U = true) = true := decide_eq_true hk
    have hkb : (!decide (okF L C T R F W U = true)) = false := by rw [hka]; rfl
    have hkc : (!!decide (okF L C T R F W U = true)) = true := by rw [hka]; rfl
    have ke : (if okF L C T R F W U = true then (0 : Int) else (2 : Int)) = 0 := by rw [if_pos hk]
    have kea : decide ((if okF L C T R F W U = true then (0 : Int) else (2 : Int)) = (0 : Int)) = true := by rw [ke]; rfl
    have keb : (!decide ((if okF L C T R F W U = true then (0 : Int) else (2 : Int)) = (0 : Int))) = false := by rw [ke]; rfl
    have kec : (!!decide ((if okF L C T R F W U = true then (0 : Int) else (2 : Int)) = (0 : Int))) = true := by rw [ke]; rfl
    by_cases g0 : t < (0 : Int)
    · have g0a : decide (t < (0 : Int)) = true := decide_eq_true g0
      have g0b : (!decide (t < (0 : Int))) = false := by rw [g0a]; rfl
      have g0c : (!!decide (t < (0 : Int))) = true := by rw [g0a]; rfl
      repeat' first
        | assumption
        | exact rfl
        | refine both_t (by assumption) ?_
        | refine both_f (by assumption) ?_
        | refine And.intro ?_ ?_
    · have g0a : decide (t < (0 : Int)) = false := decide_eq_false g0
      have g0b : (!decide (t < (0 : Int))) = true := by rw [g0a]; rfl
      have g0c : (!!decide (t < (0 : Int))) = false := by rw [g0a]; rfl
      by_cases g1 : t > u
      · have g1a : decide (t > u) = true := decide_eq_true g1
        have g1b : (!decide (t > u)) = false := by rw [g1a]; rfl
        have g1c : (!!decide (t > u)) = true := by rw [g1a]; rfl
        repeat' first
          | assumption
          | exact rfl
          | refine both_t (by assumption) ?_
          | refine both_f (by assumption) ?_
          | refine And.intro ?_ ?_
      · have g1a : decide (t > u) = false := decide_eq_false g1
        have g1b : (!decide (t > u)) = true := by rw [g1a]; rfl
        have g1c : (!!decide (t > u)) = false := by rw [g1a]; rfl
        by_cases g2 : u > (549755813888 : Int)
        · have g2a : decide (u > (549755813888 : Int)) = true := decide_eq_true g2
          have g2b : (!decide (u > (549755813888 : Int))) = false := by rw [g2a]; rfl
          have g2c : (!!decide (u > (549755813888 : Int))) = true := by rw [g2a]; rfl
          repeat' first
            | assumption
            | exact rfl
            | refine both_t (by assumption) ?_
            | refine both_f (by assumption) ?_
            | refine And.intro ?_ ?_
        · have g2a : decide (u > (549755813888 : Int)) = false := decide_eq_false g2
          have g2b : (!decide (u > (549755813888 : Int))) = true := by rw [g2a]; rfl
          have g2c : (!!decide (u > (549755813888 : Int))) = false := by rw [g2a]; rfl
          have hm : ¬ u < t := by omega
          have hma : decide (u < t) = false := decide_eq_false hm
          have hmb : (!decide (u < t)) = true := by rw [hma]; rfl
          have hmc : (!!decide (u < t)) = false := by rw [hma]; rfl
          have hw : (IntKind.i64.wrap (t + lenF L C T R F W U)) = (IntKind.i64.wrap (t + lenF L C T R F W U)) := rfl
          have hwa : decide ((IntKind.i64.wrap (t + lenF L C T R F W U)) = (IntKind.i64.wrap (t + lenF L C T R F W U))) = true := decide_eq_true hw
          have hwb : (!decide ((IntKind.i64.wrap (t + lenF L C T R F W U)) = (IntKind.i64.wrap (t + lenF L C T R F W U)))) = false := by rw [hwa]; rfl
          have hwc : (!!decide ((IntKind.i64.wrap (t + lenF L C T R F W U)) = (IntKind.i64.wrap (t + lenF L C T R F W U)))) = true := by rw [hwa]; rfl
          have hK : AV.bool (decide (t = t)) = AV.bool true := by rw [decide_eq_true rfl]
          repeat' first
            | assumption
            | exact rfl
            | refine both_t (by assumption) ?_
            | refine both_f (by assumption) ?_
            | exact hK
            | refine And.intro ?_ ?_
  · have hka : decide (okF L C T R F W U = true) = false := decide_eq_false hk
    have hkb : (!decide (okF L C T R F W U = true)) = true := by rw [hka]; rfl
    have hkc : (!!decide (okF L C T R F W U = true)) = false := by rw [hka]; rfl
    have ke : (if okF L C T R F W U = true then (0 : Int) else (2 : Int)) = 2 := by rw [if_neg hk]
    have kea : decide ((if okF L C T R F W U = true then (0 : Int) else (2 : Int)) = (0 : Int)) = false := by rw [ke]; rfl
    have keb : (!decide ((if okF L C T R F W U = true then (0 : Int) else (2 : Int)) = (0 : Int))) = true := by rw [ke]; rfl
    have kec : (!!decide ((if okF L C T R F W U = true then (0 : Int) else (2 : Int)) = (0 : Int))) = false := by rw [ke]; rfl
    repeat' first
      | assumption
      | exact rfl
      | refine both_t (by assumption) ?_
      | refine both_f (by assumption) ?_
      | refine And.intro ?_ ?_
theorem rows0EE_sc (L C T R F W U t u : Int) : SC Try.prog 14 [.agg [.int .i64 L, .int .i64 C, .int .i64 T, .int .i64 R, .int .i64 F, .int .i64 W, .int .i64 U], (.slice 0 0 0 none), (.slice 0 0 0 none), .int .i64 t, .int .i64 u] h0 (fun v _ => v = .bool true) :=
  sc_of_vc XCo5_ok (by kernel_rfl) (l0EE_vc L C T R F W U t u _) (l0EE_ok L C T R F W U t u)
theorem l0ES_ok (L C T R F W U t u : Int) (bl : List Bool) (cm : Nat) : l0ES_VC L C T R F W U t u bl cm (fun v _ => v = .bool true) := by
  unfold l0ES_VC
  by_cases gm : (bl.length : Int) > 40
  · have gma : decide ((bl.length : Int) > 40) = true := decide_eq_true gm
    have gmb : (!decide ((bl.length : Int) > 40)) = false := by rw [gma]; rfl
    have gmc : (!!decide ((bl.length : Int) > 40)) = true := by rw [gma]; rfl
    repeat' first
      | assumption
      | exact rfl
      | refine both_t (by assumption) ?_
      | refine both_f (by assumption) ?_
      | refine And.intro ?_ ?_
  · have gma : decide ((bl.length : Int) > 40) = false := decide_eq_false gm
    have gmb : (!decide ((bl.length : Int) > 40)) = true := by rw [gma]; rfl
    have gmc : (!!decide ((bl.length : Int) > 40)) = false := by rw [gma]; rfl
    by_cases hk : okF L C T R F W U = true
    · have hka : decide (okF L C T R F W U = true) = true := decide_eq_true hk
      have hkb : (!decide (okF L C T R F W U = true)) = false := by rw [hka]; rfl
      have hkc : (!!decide (okF L C T R F W U = true)) = true := by rw [hka]; rfl
      have ke : (if okF L C T R F W U = true then (0 : Int) else (2 : Int)) = 0 := by rw [if_pos hk]
      have kea : decide ((if okF L C T R F W U = true then (0 : Int) else (2 : Int)) = (0 : Int)) = true := by rw [ke]; rfl
      have keb : (!decide ((if okF L C T R F W U = true then (0 : Int) else (2 : Int)) = (0 : Int))) = false := by rw [ke]; rfl
      have kec : (!!decide ((if okF L C T R F W U = true then (0 : Int) else (2 : Int)) = (0 : Int))) = true := by rw [ke]; rfl
      by_cases g0 : t < (0 : Int)
      · have g0a : decide (t < (0 : Int)) = true := decide_eq_true g0
        have g0b : (!decide (t < (0 : Int))) = false := by rw [g0a]; rfl
        have g0c : (!!decide (t < (0 : Int))) = true := by rw [g0a]; rfl
        repeat' first
          | assumption
          | exact rfl
          | refine both_t (by assumption) ?_
          | refine both_f (by assumption) ?_
          | refine And.intro ?_ ?_
      · have g0a : decide (t < (0 : Int)) = false := decide_eq_false g0
        have g0b : (!decide (t < (0 : Int))) = true := by rw [g0a]; rfl
        have g0c : (!!decide (t < (0 : Int))) = false := by rw [g0a]; rfl
        by_cases g1 : t > u
        · have g1a : decide (t > u) = true := decide_eq_true g1
          have g1b : (!decide (t > u)) = false := by rw [g1a]; rfl
          have g1c : (!!decide (t > u)) = true := by rw [g1a]; rfl
          repeat' first
            | assumption
            | exact rfl
            | refine both_t (by assumption) ?_
            | refine both_f (by assumption) ?_
            | refine And.intro ?_ ?_
        · have g1a : decide (t > u) = false := decide_eq_false g1
          have g1b : (!decide (t > u)) = true := by rw [g1a]; rfl
          have g1c : (!!decide (t > u)) = false := by rw [g1a]; rfl
          by_cases g2 : u > (549755813888 : Int)
          · have g2a : decide (u > (549755813888 : Int)) = true := decide_eq_true g2
            have g2b : (!decide (u > (549755813888 : Int))) = false := by rw [g2a]; rfl
            have g2c : (!!decide (u > (549755813888 : Int))) = true := by rw [g2a]; rfl
            repeat' first
              | assumption
              | exact rfl
              | refine both_t (by assumption) ?_
              | refine both_f (by assumption) ?_
              | refine And.intro ?_ ?_
          · have g2a : decide (u > (549755813888 : Int)) = false := decide_eq_false g2
            have g2b : (!decide (u > (549755813888 : Int))) = true := by rw [g2a]; rfl
            have g2c : (!!decide (u > (549755813888 : Int))) = false := by rw [g2a]; rfl
            have hm : ¬ u < t := by omega
            have hma : decide (u < t) = false := decide_eq_false hm
            have hmb : (!decide (u < t)) = true := by rw [hma]; rfl
            have hmc : (!!decide (u < t)) = false := by rw [hma]; rfl
            have hw : (IntKind.i64.wrap (t + lenF L C T R F W U)) = (IntKind.i64.wrap (t + lenF L C T R F W U)) := rfl
            have hwa : decide ((IntKind.i64.wrap (t + lenF L C T R F W U)) = (IntKind.i64.wrap (t + lenF L C T R F W U))) = true := decide_eq_true hw
            have hwb : (!decide ((IntKind.i64.wrap (t + lenF L C T R F W U)) = (IntKind.i64.wrap (t + lenF L C T R F W U)))) = false := by rw [hwa]; rfl
            have hwc : (!!decide ((IntKind.i64.wrap (t + lenF L C T R F W U)) = (IntKind.i64.wrap (t + lenF L C T R F W U)))) = true := by rw [hwa]; rfl
            have hK : AV.bool (decide (t = t)) = AV.bool true := by rw [decide_eq_true rfl]
            repeat' first
              | assumption
              | exact rfl
              | refine both_t (by assumption) ?_
              | refine both_f (by assumption) ?_
              | exact hK
              | refine And.intro ?_ ?_
    · have hka : decide (okF L C T R F W U = true) = false := decide_eq_false hk
      have hkb : (!decide (okF L C T R F W U = true)) = true := by rw [hka]; rfl
      have hkc : (!!decide (okF L C T R F W U = true)) = false := by rw [hka]; rfl
      have ke : (if okF L C T R F W U = true then (0 : Int) else (2 : Int)) = 2 := by rw [if_neg hk]
      have kea : decide ((if okF L C T R F W U = true then (0 : Int) else (2 : Int)) = (0 : Int)) = false := by rw [ke]; rfl
      have keb : (!decide ((if okF L C T R F W U = true then (0 : Int) else (2 : Int)) = (0 : Int))) = true := by rw [ke]; rfl
      have kec : (!!decide ((if okF L C T R F W U = true then (0 : Int) else (2 : Int)) = (0 : Int))) = false := by rw [ke]; rfl
      repeat' first
        | assumption
        | exact rfl
        | refine both_t (by assumption) ?_
        | refine both_f (by assumption) ?_
        | refine And.intro ?_ ?_
theorem rows0ES_sc (L C T R F W U t u : Int) (bl : List Bool) (cm : Nat) : SC Try.prog 14 [.agg [.int .i64 L, .int .i64 C, .int .i64 T, .int .i64 R, .int .i64 F, .int .i64 W, .int .i64 U], (.slice 0 0 0 none), (.slice 0 0 bl.length (some cm)), .int .i64 t, .int .i64 u] ⟨1, [(0, .ro (bF bl))]⟩ (fun v _ => v = .bool true) :=
  sc_of_vcH XCo5_ok (by kernel_rfl) (fun p _ L hL => by cases hL) (l0ES_vc L C T R F W U t u bl cm _) (l0ES_ok L C T R F W U t u bl cm)
end Go.Proofs.Ytnfelncgeihihaa.V
namespace Go.Proofs.Ytnfelncgeihihaa.V
open Go Go.Proofs
set_option maxRecDepth 100000
set_option linter.unusedVariables false
theorem SC.heap_eq {P : Program} {f : Nat} {args : List AV} {σ τ : AH} {Q : AV → AH → Prop} (hn : σ.nx = τ.nx) (hg : ∀ b, σ.get b = τ.get b) (h : SC P f args σ Q) : SC P f args τ Q := by
  intro ρ args' w hv hr
  have hw : Wr ρ σ = Wr ρ τ := by
    funext c
    unfold Wr
    simp only [hg]
  have hr' : HR ρ σ w := ⟨fun b r hb => by rw [hn]; exact hr.dom b r hb, hr.lt, fun b r hb => by rw [hg]; exact hr.obj b r hb, fun b b' r r' h1 h2 h3 h4 h5 => by rw [hg] at h4 h5; exact hr.inj b b' r r' h1 h2 h3 h4 h5⟩
  refine Calls.mono (h ρ args' w hv hr') ?_
  rintro e w' ⟨v, v', ρ', σ', h1, h2, h3, h4, h5⟩
  rw [hn, hw] at h5
  exact ⟨v, v', ρ', σ', h1, h2, h3, h4, h5⟩
theorem two_ro (a b : List AV) : ∀ k, (⟨2, [(1, .ro b), (0, .ro a)]⟩ : AH).get k = (roS [a, b]).get k := by
  intro k
  rw [roS_get]
  match k with
  | 0 => rfl
  | 1 => rfl
  | k + 2 => rfl
theorem rowsN_ro {L C T R F W U t u : Int} {rq : List Rq} {c : Nat} (hp : 0 < rq.length) : SC Try.prog 14 [.agg [.int .i64 L, .int .i64 C, .int .i64 T, .int .i64 R, .int .i64 F, .int .i64 W, .int .i64 U], .slice 0 0 rq.length (some c), .nilslice, .int .i64 t, .int .i64 u] (roS [qF rq, qF rq]) (fun v _ => v = .bool true) :=
  SC.heap_eq (σ := ⟨2, [(1, .ro (qF rq)), (0, .ro (qF rq))]⟩) rfl (two_ro _ _) (rowsN_sc pfs_qF hp)
theorem rowsE_ro {L C T R F W U t u : Int} {rq : List Rq} {c : Nat} (hp : 0 < rq.length) : SC Try.prog 14 [.agg [.int .i64 L, .int .i64 C, .int .i64 T, .int .i64 R, .int .i64 F, .int .i64 W, .int .i64 U], .slice 0 0 rq.length (some c), .slice 1 0 0 none, .int .i64 t, .int .i64 u] (roS [qF rq, qF rq]) (fun v _ => v = .bool true) :=
  SC.heap_eq (σ := ⟨2, [(1, .ro (qF rq)), (0, .ro (qF rq))]⟩) rfl (two_ro _ _) (rowsE_sc pfs_qF hp)
theorem rowsS_ro {L C T R F W U t u : Int} {rq : List Rq} {bl : List Bool} {c cm : Nat} (hp : 0 < rq.length) : SC Try.prog 14 [.agg [.int .i64 L, .int .i64 C, .int .i64 T, .int .i64 R, .int .i64 F, .int .i64 W, .int .i64 U], .slice 0 0 rq.length (some c), .slice 1 0 bl.length (some cm), .int .i64 t, .int .i64 u] (roS [qF rq, bF bl]) (fun v _ => v = .bool true) :=
  SC.heap_eq (σ := ⟨2, [(1, .ro (bF bl)), (0, .ro (qF rq))]⟩) rfl (two_ro _ _) (rowsS_sc pfs_bF hp)
end Go.Proofs.Ytnfelncgeihihaa.V
