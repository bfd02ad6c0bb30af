/- Own library, part 9: walking code over abstract values, calls, results, loops. -/
import Derived.Test.YteneafgmcmgahaaV8
namespace Go.Proofs.Yteneafgmcmgahaa.V
open Go
set_option linter.unusedSimpArgs false
set_option linter.unusedVariables false

variable {P : Program}

-- ------------------------------------------------------------------ what is meant
/-- An entry: where a call began. -/
structure Ent where
  n0 : Nat
  ρ0 : Ren
  W0 : Nat → Prop
  w0 : World
  gok : GOK W0 w0
/-- The abstract state stands for the model's. -/
def St (E : Ent) (fr : AF) (σ : AH) (a : Act) (w : World) : Prop := ∃ ρ, HR ρ σ w ∧ Since E.n0 E.ρ0 E.W0 E.w0 ρ σ w ∧ FR ρ fr a
/-- Code, walked from an abstract state, ends so. -/
def WP (P : Program) (n0 : Nat) (c : Code) (Q : Exit → AF → AH → Prop) (fr : AF) (σ : AH) : Prop :=
  ∀ (E : Ent) (a : Act) (w : World), E.n0 = n0 → St E fr σ a w → c.wp P (fun e a' w' => ∃ fr' σ', Q e fr' σ' ∧ St E fr' σ' a' w') a w
/-- A call. -/
def SC (P : Program) (f : Nat) (args : List AV) (σ : AH) (Q : AV → AH → Prop) : Prop :=
  ∀ (ρ : Ren) (args' : List Value) (w : World), VRs ρ args args' → HR ρ σ w → GOK (Wr ρ σ) w →
    Calls P f ⟨args'⟩ w (fun e w' => ∃ v v' ρ' σ', e = .returned v' ∧ Q v σ' ∧ VR ρ' v v' ∧ HR ρ' σ' w' ∧ Since σ.nx ρ (Wr ρ σ) w ρ' σ' w')

/-- A loop's rounds, from one round's head on. -/
def WL (P : Program) (n0 : Nat) (c : Code) (Q : Exit → AF → AH → Prop) (fr : AF) (σ : AH) : Prop :=
  ∀ (E : Ent) (a : Act) (w : World), E.n0 = n0 → St E fr σ a w → ∀ (b : Frame) (k : List Item) (cs : List Frame),
    ∃ e a' w', (∃ fr' σ', Q e fr' σ' ∧ St E fr' σ' a' w') ∧ Arrives P (lone (b.at a (.code c :: .inLoop c :: k)) cs w) b k cs e a' w'
theorem WL.loop {n0 : Nat} {c : Code} {Q : Exit → AF → AH → Prop} {fr : AF} {σ : AH} (h : WL P n0 c Q fr σ) : WP P n0 (.loop c) Q fr σ :=
  fun E a w hE hs b k cs => let ⟨e, a', w', hq, harr⟩ := h E a w hE hs b k cs; ⟨e, a', w', hq, .of_steps (.one step_loop) harr⟩
theorem WL.mono {n0 : Nat} {c : Code} {Q Q' : Exit → AF → AH → Prop} {fr : AF} {σ : AH} (h : WL P n0 c Q fr σ) (hq : ∀ e fr σ, Q e fr σ → Q' e fr σ) : WL P n0 c Q' fr σ :=
  fun E a w hE hs b k cs => let ⟨e, a', w', ⟨fr', σ', q, s⟩, harr⟩ := h E a w hE hs b k cs; ⟨e, a', w', ⟨fr', σ', hq _ _ _ q, s⟩, harr⟩

/-- What is known of functions: of the arguments and the heap the result and the heap. -/
abbrev Orc := Nat → Option (List AV → AH → Option (AV × AH))
def OrcOk (P : Program) (orc : Orc) : Prop :=
  ∀ f o, orc f = some o → ∀ as σ v σ', o as σ = some (v, σ') → SC P f as σ (fun u τ => u = v ∧ τ = σ')

theorem WP.mono {n0 : Nat} {c : Code} {Q Q' : Exit → AF → AH → Prop} {fr : AF} {σ : AH} (h : WP P n0 c Q fr σ) (hq : ∀ e fr σ, Q e fr σ → Q' e fr σ) : WP P n0 c Q' fr σ :=
  fun E a w hE hs => wp_mono (h E a w hE hs) fun e a' w' ⟨fr', σ', q, s⟩ => ⟨fr', σ', hq _ _ _ q, s⟩
theorem SC.mono {f : Nat} {args : List AV} {σ : AH} {Q Q' : AV → AH → Prop} (h : SC P f args σ Q) (hq : ∀ v σ, Q v σ → Q' v σ) : SC P f args σ Q' :=
  fun ρ args' w hv hr hg => Calls.mono (h ρ args' w hv hr hg) fun e w' ⟨v, v', ρ', σ', a, b, c⟩ => ⟨v, v', ρ', σ', a, hq _ _ b, c⟩

-- ------------------------------------------------------------------ one operation
def wantA (all : List Oper) (fr : AF) : Option (Nat × Bool) → Option Bool
  | none => some true
  | some (j, want) => match all[j]? with
    | some o => match o.dst with
      | some d => match lookF fr.l d with
        | some (.bool b) => some (if want then b else !b)
        | some (.tup _) => some false
        | _ => none
      | none => none
    | none => none
def guardA : Option Bool → Prop → Prop → Prop
  | some b, A, B => if b = true then A else B
  | none, _, _ => False
def resA : Option (AV × AH) → Option Nat → AF → (AF → AH → Prop) → Prop
  | some (v, σ), dst, fr, K => K (fr.put dst v) σ
  | none, _, _, _ => False
def callOf : Op → Option Call
  | .call c => match c.callee with
    | .builtin _ => none
    | _ => some c
  | _ => none
/-- A function with a body, called as itself. -/
def callT (P : Program) (f : Nat) : Bool :=
  match P.funcs[f]? with
  | some fn => fn.name != "runtime.NumGoroutine" && fn.body.isSome
  | none => false
/-- The function of a method's row, and whether its receiver is a pointer. -/
def methT (P : Program) (t : Nat) (name : String) : Option (Nat × Bool) := match P.info? t with
  | some i => match i.methods.find? (·.name == name) with
    | some m => if m.path.isEmpty = true then m.func else none
    | none => none
  | none => none
inductive RK where
  | ptr (e : Nat) | other
def rkD : TypeDesc → RK
  | .pointer e => .ptr e
  | _ => .other
def rkT (P : Program) (t : Nat) : Option RK := (P.underlying t).map rkD
def recvA (P : Program) (t : Nat) (p : Bool) (v : AV) (σ : AH) : Option AV :=
  match rkT P t with
  | some (.ptr e) => if p = true then some v else match v with
    | .ptr b o => aLoad P e (.ptr b o) σ
    | _ => none
  | some .other => if p = true then none else some v
  | none => none
def calleeA (P : Program) (c : Call) (ev : Operand → Option AV) (σ : AH) : Option (Nat × List AV) :=
  match c.callee with
  | .value f => match ev f, evs ev c.args.toList with
    | some (.func (.func g) first captured), some as => if callT P g = true then some (g, first ++ as ++ captured) else none
    | _, _ => none
  | .invoke r name => match ev r, evs ev c.args.toList with
    | some (.iface t v), some as => match methT P t name with
      | some (g, p) => match recvA P t p v σ with
        | some u => if callT P g = true then some (g, u :: as) else none
        | none => none
      | none => none
    | _, _ => none
  | _ => none
def callA (P : Program) (orc : Orc) : Option (Nat × List AV) → Option Nat → AF → AH → (AF → AH → Prop) → Prop
  | some (g, as), dst, fr, σ, K => match orc g with
    | some o => resA (o as σ) dst fr K
    | none => SC P g as σ (fun v σ' => K (fr.put dst v) σ')
  | none, _, _, _, _ => False
def opA (P : Program) (orc : Orc) (o : Oper) (fr : AF) (σ : AH) (K : AF → AH → Prop) : Prop :=
  match callOf o.op with
  | some c => callA P orc (calleeA P c fr.ev σ) o.dst fr σ K
  | none => resA (aop P o.op fr.ev σ) o.dst fr K
def opsA (P : Program) (orc : Orc) (all : List Oper) : List Oper → (AF → AH → Prop) → AF → AH → Prop
  | [], K, fr, σ => K fr σ
  | o :: r, K, fr, σ => guardA (wantA all fr o.guard) (opA P orc o fr σ (opsA P orc all r K)) (opsA P orc all r K (fr.put o.dst unk) σ)
/-- The same where each call has an oracle: for regions that draw their order. -/
def callD (orc : Orc) : Option (Nat × List AV) → Option Nat → AF → AH → (AF → AH → Prop) → Prop
  | some (g, as), dst, fr, σ, K => match orc g with
    | some o => resA (o as σ) dst fr K
    | none => False
  | none, _, _, _, _ => False
def opD (P : Program) (orc : Orc) (o : Oper) (fr : AF) (σ : AH) (K : AF → AH → Prop) : Prop :=
  match callOf o.op with
  | some c => callD orc (calleeA P c fr.ev σ) o.dst fr σ K
  | none => resA (aop P o.op fr.ev σ) o.dst fr K
def opsD (P : Program) (orc : Orc) (all : List Oper) : List Oper → (AF → AH → Prop) → AF → AH → Prop
  | [], K, fr, σ => K fr σ
  | o :: r, K, fr, σ => guardA (wantA all fr o.guard) (opD P orc o fr σ (opsD P orc all r K)) (opsD P orc all r K (fr.put o.dst unk) σ)

def condA : Option AV → Prop → Prop → Prop
  | some (.bool b), A, B => if b = true then A else B
  | _, _, _ => False
def blkQ (id : Nat) (Q : Exit → AF → AH → Prop) (K : AF → AH → Prop) : Exit → AF → AH → Prop
  | .exit i, fr, σ => if i = id then K fr σ else Q (.exit i) fr σ
  | e, fr, σ => Q e fr σ
def comb (Q : Exit → AF → AH → Prop) (K : AF → AH → Prop) : Exit → AF → AH → Prop
  | .normal, fr, σ => K fr σ
  | e, fr, σ => Q e fr σ
def noGo (Q : Exit → AF → AH → Prop) : Exit → AF → AH → Prop
  | .goto _, _, _ => False
  | e, fr, σ => Q e fr σ
def wpA (P : Program) (orc : Orc) (n0 : Nat) : Code → (Exit → AF → AH → Prop) → (AF → AH → Prop) → AF → AH → Prop
  | .skip, _, K, fr, σ => K fr σ
  | .region _ ops d, _, K, fr, σ => if d = true then opsD P orc ops.toList ops.toList K fr σ else opsA P orc ops.toList ops.toList K fr σ
  | .seq a b, Q, K, fr, σ => wpA P orc n0 a Q (wpA P orc n0 b Q K) fr σ
  | .cond c a b, Q, K, fr, σ => condA (fr.ev c) (wpA P orc n0 a Q K fr σ) (wpA P orc n0 b Q K fr σ)
  | .block id b, Q, K, fr, σ => wpA P orc n0 b (blkQ id Q K) K fr σ
  | .exit id, Q, _, fr, σ => Q (.exit id) fr σ
  | .ret, Q, _, fr, σ => Q .ret fr σ
  | .loop b, Q, K, fr, σ => WL P n0 b (comb Q K) fr σ
  | .scope b, Q, K, fr, σ => wpA P orc n0 b (noGo Q) K fr σ
  | .label _, _, K, fr, σ => K fr σ
  | _, _, _, _, _ => False

-- ------------------------------------------------------------------ sound
theorem want_ok {all : List Oper} {fr : AF} {ρ : Ren} {a : Act} {o : Oper} {t : Bool} (h : FR ρ fr a) (e : wantA all fr o.guard = some t) : Region.wanted o (yielded ⟨all⟩ a.tmps) = t := by
  unfold Region.wanted
  cases hg : o.guard with
  | none => rw [hg] at e; simp only [wantA, Option.some.injEq] at e; subst e; rfl
  | some jw =>
    obtain ⟨j, want⟩ := jw
    rw [hg] at e
    simp only [wantA] at e
    split at e
    · rename_i oj hj
      split at e
      · rename_i d hd
        split at e
        · rename_i b hb
          obtain ⟨v', h1, h2⟩ := h.tmps d _ hb
          cases h2
          cases e
          simp only [yielded, List.getElem?_toArray, hj, Option.bind_some, hd, h1]
          cases want <;> cases b <;> rfl
        · rename_i vs hb
          obtain ⟨v', h1, h2⟩ := h.tmps d _ hb
          cases h2
          cases e
          simp only [yielded, List.getElem?_toArray, hj, Option.bind_some, hd, h1]
          cases want <;> rfl
        · cases e
      · cases e
    · cases e

theorem Since.of_step {n0 : Nat} {ρ0 : Ren} {W0 : Nat → Prop} {w0 : World} {ρ : Ren} {σ : AH} {w : World} {ρ' : Ren} {σ' : AH} {w' : World}
    (h : Since n0 ρ0 W0 w0 ρ σ w) (k : Step ρ σ w ρ' σ' w') : Since n0 ρ0 W0 w0 ρ' σ' w' := h.step k.since

theorem run_load {ρ : Ren} {σ : AH} {w : World} {t : Nat} {b o : Nat} {v : AV} {a : Addr} (h : HR ρ σ w) (ha : VR ρ (.ptr b o) (.pointer (some a))) (e : aLoad P t (.ptr b o) σ = some v) : ∃ v', (loadVar t a).run P w = .ok v' w ∧ VR ρ v v' := by
  unfold aLoad at e
  cases ha with
  | ptr hb =>
    simp only at e
    split at e
    · rename_i cs hc hg
      obtain ⟨v', hv', hr⟩ := h.cell hb hc e
      refine ⟨v', ?_, hr⟩
      simp [loadVar, run_aggT hg, hv']
    · rename_i cs hc hg
      split at e
      · rename_i n hn
        split at e
        · rename_i hle
          cases e
          obtain ⟨l, hl, hv, _, _⟩ := h.loadCells (P := P) hb hc hle
          refine ⟨_, ?_, .agg hv⟩
          simp [loadVar, run_aggT hg, run_szT hn, hl]
        · cases e
      · cases e
    · cases e
theorem method_run {ρ : Ren} {σ : AH} {w : World} {t g : Nat} {p : Bool} {name : String} {v u : AV} {v' : Value} (h : HR ρ σ w) (hv : VR ρ v v') (hm : methT P t name = some (g, p)) (hu : recvA P t p v σ = some u) :
    ∃ u', (method (P.types.size + Made.depth) t v' name).run P w = .ok (g, u') w ∧ VR ρ u u' := by
  unfold methT at hm
  split at hm
  · rename_i i hi
    split at hm
    · rename_i m hf
      split at hm
      · rename_i hp
        have hti : (typeInfo t).run P w = .ok i w := by simp [typeInfo, hi]
        have hpl : m.path.toList = [] := by simpa using hp
        have key : ∃ u', (receiverAt t (.val v') p (some ((name.splitOn ".").getLastD name))).run P w = .ok u' w ∧ VR ρ u u' := by
          unfold recvA rkT at hu
          cases hut : P.underlying t with
          | none => rw [hut] at hu; cases hu
          | some d =>
            rw [hut] at hu
            simp only [Option.map_some] at hu
            by_cases hd : ∃ e, d = .pointer e
            · obtain ⟨e, rfl⟩ := hd
              simp only [rkD] at hu
              split at hu
              · rename_i hp'
                cases hu
                subst hp'
                exact ⟨v', by simp only [receiverAt, Sem.run_bind, run_underlying hut, Result.andThen_ok, Place.get, Sem.run_pure], hv⟩
              · rename_i hp'
                have hp' : p = false := by simpa using hp'
                subst hp'
                split at hu
                · rename_i b o
                  cases hv with
                  | ptr hb =>
                    obtain ⟨x, h1, h2⟩ := run_load (P := P) h (.ptr hb) hu
                    refine ⟨x, ?_, h2⟩
                    have hq : ∀ (a : Addr) (m : String), (Builtin.ssaWrapNilChk_ #[t] t #[.pointer (some a), strVal "", strVal m]).run P w = .ok (.pointer (some a)) w := fun _ _ => rfl
                    simp only [receiverAt, Sem.run_bind, run_underlying hut, Result.andThen_ok, Place.get, Sem.run_pure, hq, asAddr, h1]
                · cases hu
            · have hrk : rkD d = .other := by cases d <;> first | rfl | exact absurd ⟨_, rfl⟩ hd
              rw [hrk] at hu
              simp only at hu
              split at hu
              · cases hu
              · rename_i hp'
                have hp' : p = false := by simpa using hp'
                subst hp'
                cases hu
                refine ⟨v', ?_, hv⟩
                simp only [receiverAt, Sem.run_bind, run_underlying hut, Result.andThen_ok]
                cases d <;> first | exact absurd ⟨_, rfl⟩ hd | simp only [Place.get, Sem.run_pure]
        obtain ⟨u', h1, h2⟩ := key
        refine ⟨u', ?_, h2⟩
        obtain ⟨k, hk⟩ : ∃ k, P.types.size + Made.depth = k + 1 := ⟨P.types.size + 99, rfl⟩
        rw [hk]
        simp only [method, Sem.run_bind, hti, Result.andThen_ok, hf, hpl, follow, Sem.run_pure, hm, hp, if_true, h1]
      · cases hm
    · cases hm
  · cases hm
theorem calleeA_run {c : Call} {o : Oper} {ev : Operand → Option AV} {ev' : Operand → Value} {ρ : Ren} {g : Nat} {as : List AV} (ho : o.op = .call c) (hev : ∀ x v, ev x = some v → VR ρ v (ev' x))
    {σ : AH} {w : World} (hr : HR ρ σ w) (e : calleeA P c ev σ = some (g, as)) : ∃ as', (execOp ev' o).run P w = .ok (.enter g ⟨as'⟩) w ∧ VRs ρ as as' := by
  unfold calleeA at e
  split at e
  · rename_i f hc
    split at e
    · rename_i g' first captured as0 hf has
      split at e
      · rename_i ht
        cases e
        have hv := hev f _ hf
        obtain ⟨l, el, vl⟩ := (evs_VRs hev has).toArr
        have hfn : ∃ fn, P.funcs[g]? = some fn ∧ (fn.name != "runtime.NumGoroutine") = true ∧ fn.body.isSome = true := by
          unfold callT at ht
          split at ht
          · rename_i fn hfn
            simp only [Bool.and_eq_true] at ht
            exact ⟨fn, hfn, ht.1, ht.2⟩
          · cases ht
        obtain ⟨fn, h1, h2, h3⟩ := hfn
        have h2' : (fn.name == "runtime.NumGoroutine") = false := by simpa using h2
        have h3' : fn.body.isNone = false := by cases hb : fn.body <;> simp_all
        generalize hq : ev' f = q at hv
        cases hv with
        | func v1 v2 =>
          rename_i f' c'
          refine ⟨f' ++ l ++ c', ?_, (v1.append vl).append v2⟩
          simp only [execOp, ho, resolve, hc, hq, Deferred.ofValue, el, Sem.run_bind, Sem.run_pure, Result.andThen_ok, invoke, callFunc, run_program, h1]
          simp only [h2', h3', Bool.false_eq_true, if_false, Sem.run_pure]
          congr 2
          apply Array.ext'
          simp
      · cases e
    · cases e
  · rename_i r name hc
    split at e
    · rename_i t v as0 hf has
      split at e
      · rename_i g' p hm
        split at e
        · rename_i u hu
          split at e
          · rename_i ht
            cases e
            have hv := hev r _ hf
            obtain ⟨l, el, vl⟩ := (evs_VRs hev has).toArr
            have hfn : ∃ fn, P.funcs[g]? = some fn ∧ (fn.name != "runtime.NumGoroutine") = true ∧ fn.body.isSome = true := by
              unfold callT at ht
              split at ht
              · rename_i fn hfn
                simp only [Bool.and_eq_true] at ht
                exact ⟨fn, hfn, ht.1, ht.2⟩
              · cases ht
            obtain ⟨fn, h1, h2, h3⟩ := hfn
            have h2' : (fn.name == "runtime.NumGoroutine") = false := by simpa using h2
            have h3' : fn.body.isNone = false := by cases hb : fn.body <;> simp_all
            generalize hq : ev' r = q at hv
            cases hv with
            | iface hv =>
              rename_i v'
              obtain ⟨u', hu1, hu2⟩ := method_run (P := P) hr hv hm hu
              refine ⟨u' :: l, ?_, .cons hu2 vl⟩
              simp only [execOp, ho, resolve, hc, hq, el, Sem.run_bind, Sem.run_pure, Result.andThen_ok, invoke]
              have e0 : (#[Value.iface t v'] ++ (⟨l⟩ : Array Value))[0]? = some (Value.iface t v') := by simp
              have e1 : (#[Value.iface t v'] ++ (⟨l⟩ : Array Value)).extract 1 (#[Value.iface t v'] ++ (⟨l⟩ : Array Value)).size = ⟨l⟩ := by
                apply Array.ext'; simp
              simp only [e0, e1, callMethod, run_program, Sem.run_bind, Sem.run_pure, Result.andThen_ok, hu1, callFunc, h1]
              simp only [h2', h3', Bool.false_eq_true, if_false, Sem.run_pure]
              congr 2
              apply Array.ext'
              simp
          · cases e
        · cases e
      · cases e
    · cases e
  · cases e

theorem opA_sound {orc : Orc} (horc : OrcOk P orc) {ops : Array Oper} {rest : List Oper} {Qc : Exit → Act → World → Prop} {o : Oper} {fr : AF} {σ : AH} {K : AF → AH → Prop} {E : Ent} {a : Act} {w : World}
    (h : opA P orc o fr σ K) (hs : St E fr σ a w) (next : Act → World → Prop) (hn : ∀ fr σ a w, K fr σ → St E fr σ a w → next a w) : o.wp P a w next Qc := by
  obtain ⟨ρ, hr, hsince, hfr⟩ := hs
  unfold opA at h
  split at h
  · rename_i c hc
    have hoc : o.op = .call c := by
      unfold callOf at hc
      split at hc
      · rename_i c' ho
        split at hc
        · cases hc
        · cases hc; exact ho
      · cases hc
    cases hcal : calleeA P c fr.ev σ with
    | none => rw [hcal] at h; exact h.elim
    | some q =>
      obtain ⟨g, as⟩ := q
      rw [hcal] at h
      simp only [callA] at h
      obtain ⟨as', hrun, hv⟩ := calleeA_run hoc (fun x v e => hfr.ev e) hr hcal
      have hsc : SC P g as σ (fun v σ' => K (fr.put o.dst v) σ') := by
        cases hf : orc g with
        | none => rw [hf] at h; exact h
        | some f =>
          rw [hf] at h
          simp only at h
          cases hq : f as σ with
          | none => rw [hq] at h; exact h.elim
          | some q =>
            obtain ⟨v, σ'⟩ := q
            rw [hq] at h
            exact (horc g f hf as σ v σ' hq).mono fun u τ ⟨h1, h2⟩ => by subst h1 h2; exact h
      unfold Oper.wp
      rw [hrun, Oper.upon_enter]
      refine Calls.mono (hsc ρ as' w hv hr (hsince.gok E.gok)) ?_
      rintro e w' ⟨v, v', ρ', σ', rfl, hK, hvr, hr', hs'⟩
      have hkeep : Sub ρ ρ' := fun b r hb => by rw [hs'.keep b (hr.dom b r hb)]; exact hb
      exact hn _ _ _ _ hK ⟨ρ', hr', hsince.step hs', (hfr.mono hkeep).put o.dst hvr⟩
  · cases hq : aop P o.op fr.ev σ with
    | none => rw [hq] at h; exact h.elim
    | some q =>
      obtain ⟨v, σ'⟩ := q
      rw [hq] at h
      simp only [resA] at h
      obtain ⟨v', w', ρ', h1, h2, h3⟩ := aop_ok (o := o) hr (hsince.gok E.gok) (fun x v e => hfr.ev e) hq
      unfold Oper.wp
      have fin := hn _ _ (a.put o.dst v') w' h ⟨ρ', h3.hr, hsince.of_step h3, (hfr.mono h3.sub).put o.dst h2⟩
      rcases h1 with h1 | ⟨h1, rfl⟩
      · rw [h1, Oper.upon_value]; exact fin
      · rw [h1, Oper.upon_skip]; exact fin

theorem opsA_sound {orc : Orc} (horc : OrcOk P orc) {all : List Oper} {Qc : Exit → Act → World → Prop} {K : AF → AH → Prop} {E : Ent} (hn : ∀ fr σ a w, K fr σ → St E fr σ a w → Qc .normal a w) :
    ∀ (l : List Oper) (fr : AF) (σ : AH) (a : Act) (w : World), opsA P orc all l K fr σ → St E fr σ a w → wpList P ⟨all⟩ Qc l a w := by
  intro l
  induction l with
  | nil => intro fr σ a w h hs; exact hn fr σ a w h hs
  | cons o r ih =>
    intro fr σ a w h hs
    simp only [opsA] at h
    cases hw : wantA all fr o.guard with
    | none => rw [hw] at h; exact h.elim
    | some t =>
      rw [hw] at h
      simp only [guardA] at h
      have hs' := hs
      obtain ⟨ρ, hr, hsince, hfr⟩ := hs
      have hwant := want_ok (o := o) hfr hw
      unfold wpList
      cases t with
      | true =>
        simp only [if_true] at h
        rw [if_pos hwant]
        exact .inl (opA_sound (ops := ⟨all⟩) (rest := r) horc h hs' _ (fun fr σ a w => ih fr σ a w))
      | false =>
        simp only [Bool.false_eq_true, if_false] at h
        rw [if_neg (by simp [hwant])]
        exact ih _ _ _ _ h ⟨ρ, hr, hsince, hfr.put o.dst (.tup .nil)⟩

/-- A region that draws its order goes as the text says. -/
def DrawOk (P : Program) (orc : Orc) (ops : Array Oper) : Prop :=
  ∀ (id : Nat) (K : AF → AH → Prop) (fr : AF) (σ : AH) (E : Ent) (a : Act) (w : World), opsD P orc ops.toList ops.toList K fr σ → St E fr σ a w →
    (Code.region id ops true).wp P (fun e a' w' => e = .normal ∧ ∃ fr' σ', K fr' σ' ∧ St E fr' σ' a' w') a w
/-- All regions that draw. -/
def drawsIn : Code → List (Array Oper)
  | .region _ ops true => [ops]
  | .seq a b => drawsIn a ++ drawsIn b
  | .cond _ a b => drawsIn a ++ drawsIn b
  | .block _ b => drawsIn b
  | .scope b => drawsIn b
  | _ => []

theorem wpA_sound {orc : Orc} (horc : OrcOk P orc) {n0 : Nat} : ∀ (c : Code) (Q : Exit → AF → AH → Prop) (K : AF → AH → Prop) (fr : AF) (σ : AH),
    (∀ ops ∈ drawsIn c, DrawOk P orc ops) → wpA P orc n0 c Q K fr σ → WP P n0 c (comb Q K) fr σ := by
  intro c
  induction c with
  | skip => intro Q K fr σ _ h E a w _ hs; exact wp_skip ⟨fr, σ, h, hs⟩
  | region id ops d =>
    intro Q K fr σ hd h E a w hE hs
    simp only [wpA] at h
    cases d with
    | true =>
      simp only [if_true] at h
      refine wp_mono (hd ops (by simp [drawsIn]) id K fr σ E a w h hs) ?_
      rintro e a' w' ⟨rfl, fr', σ', hk, hs'⟩
      exact ⟨fr', σ', hk, hs'⟩
    | false =>
      simp only [Bool.false_eq_true, if_false] at h
      exact wp_region_list (opsA_sound horc (fun fr σ a w hk hs => ⟨fr, σ, hk, hs⟩) _ fr σ a w h hs)
  | seq x y ihx ihy =>
    intro Q K fr σ hd h E a w hE hs
    simp only [wpA] at h
    refine wp_seq (wp_mono (ihx Q _ fr σ (fun ops ho => hd ops (by simp [drawsIn, ho])) h E a w hE hs) ?_)
    rintro e a' w' ⟨fr', σ', q, hs'⟩
    cases e with
    | normal => exact ihy Q K fr' σ' (fun ops ho => hd ops (by simp [drawsIn, ho])) q E a' w' hE hs'
    | _ => exact ⟨fr', σ', q, hs'⟩
  | cond t x y ihx ihy =>
    intro Q K fr σ hd h E a w hE hs
    simp only [wpA] at h
    cases ht : fr.ev t with
    | none => rw [ht] at h; exact h.elim
    | some v =>
      rw [ht] at h
      cases v with
      | bool b =>
        simp only [condA] at h
        obtain ⟨ρ, hr, hsince, hfr⟩ := hs
        have hb : a.eval t = .bool b := by
          have := hfr.ev ht
          generalize a.eval t = q at this ⊢
          cases this; rfl
        cases b with
        | true => exact wp_cond_true hb (ihx Q K fr σ (fun ops ho => hd ops (by simp [drawsIn, ho])) (by simpa using h) E a w hE ⟨ρ, hr, hsince, hfr⟩)
        | false => exact wp_cond_false hb (ihy Q K fr σ (fun ops ho => hd ops (by simp [drawsIn, ho])) (by simpa using h) E a w hE ⟨ρ, hr, hsince, hfr⟩)
      | _ => exact h.elim
  | block id x ih =>
    intro Q K fr σ hd h E a w hE hs
    simp only [wpA] at h
    refine wp_block (wp_mono (ih _ K fr σ (fun ops ho => hd ops (by simp [drawsIn, ho])) h E a w hE hs) ?_)
    rintro e a' w' ⟨fr', σ', q, hs'⟩
    cases e with
    | exit i =>
      simp only [comb, blkQ] at q
      simp only [Exit.inBlock]
      split at q
      · rename_i hi; rw [if_pos hi]; exact ⟨fr', σ', q, hs'⟩
      · rename_i hi; rw [if_neg hi]; exact ⟨fr', σ', q, hs'⟩
    | _ => exact ⟨fr', σ', q, hs'⟩
  | loop x ih => intro Q K fr σ _ h; exact WL.loop h
  | exit id => intro Q K fr σ _ h E a w _ hs; exact wp_exit ⟨fr, σ, h, hs⟩
  | ret => intro Q K fr σ _ h E a w _ hs; exact wp_ret ⟨fr, σ, h, hs⟩
  | label l => intro Q K fr σ _ h E a w _ hs; exact wp_label ⟨fr, σ, h, hs⟩
  | scope x ih =>
    intro Q K fr σ hd h E a w hE hs
    simp only [wpA] at h
    refine wp_scope_straight (wp_mono (ih _ K fr σ (fun ops ho => hd ops (by simp [drawsIn, ho])) h E a w hE hs) ?_)
    rintro e a' w' ⟨fr', σ', q, hs'⟩
    cases e with
    | goto l => exact q.elim
    | _ => exact ⟨fr', σ', q, hs'⟩
  | rangeFunc f ps x y ihx ihy => intro Q K fr σ _ h; exact h.elim
  | goto l => intro Q K fr σ _ h; exact h.elim
  | refuse s => intro Q K fr σ _ h; exact h.elim

-- ------------------------------------------------------------------ results, bodies
def resultA (P : Program) (fr : AF) (σ : AH) : ResultVar → Option AV
  | .tmp t => lookF fr.l t
  | .cell a t => match lookF fr.l a with
    | some v => aLoad P t v σ
    | none => none
def resultsA (P : Program) (fr : AF) (σ : AH) : List ResultVar → Option (List AV)
  | [] => some []
  | r :: l => match resultA P fr σ r, resultsA P fr σ l with
    | some v, some vs => some (v :: vs)
    | _, _ => none
def pack : List AV → AV
  | [v] => v
  | vs => .tup vs
def retR (r : Option (List AV)) (σ : AH) (Q : AV → AH → Prop) : Prop := match r with
  | some vs => Q (pack vs) σ
  | none => False
def retQ (P : Program) (rs : List ResultVar) (Q : AV → AH → Prop) : Exit → AF → AH → Prop
  | .ret, fr, σ => retR (resultsA P fr σ rs) σ Q
  | .normal, fr, σ => retR (resultsA P fr σ rs) σ Q
  | _, _, _ => False
def enterL : Nat → List AV → List (Nat × AV)
  | _, [] => []
  | i, v :: r => (i, v) :: enterL (i + 1) r
def AF.enter (n : Nat) (args : List AV) : AF := ⟨n, enterL 0 args⟩

/-- One result. -/
def resSem (tmps : Array Value) : ResultVar → Sem Value
  | .tmp t => pure (tmps.getD t undef)
  | .cell a t => do loadVar t (← asAddr (tmps.getD a undef))
theorem results_eq (fn : Func) (tmps : Array Value) : results fn tmps = (do let vs ← fn.results.mapM (resSem tmps); pure (if h : vs.size = 1 then vs[0] else .tuple vs)) := by
  unfold results
  congr 1
theorem results_run {fn : Func} {fr : AF} {σ : AH} {ρ : Ren} {a : Act} {w : World} (hr : HR ρ σ w) (hfr : FR ρ fr a) {vs : List AV} (e : resultsA P fr σ fn.results.toList = some vs) :
    ∃ v', (results fn a.tmps).run P w = .ok v' w ∧ VR ρ (pack vs) v' := by
  have one : ∀ (r : ResultVar) (v : AV), resultA P fr σ r = some v → ∃ v', (resSem a.tmps r).run P w = .ok v' w ∧ VR ρ v v' := by
    intro r v h
    cases r with
    | tmp t =>
      obtain ⟨v', h1, h2⟩ := hfr.tmps t v h
      exact ⟨v', by simp [resSem, Array.getD_eq_getD_getElem?, h1], h2⟩
    | cell c t =>
      simp only [resultA] at h
      split at h
      · rename_i u hu
        obtain ⟨u', h1, h2⟩ := hfr.tmps c u hu
        obtain ⟨v', w', ρ', h3, h4, h5⟩ := ok_load (P := P) hr h2 h
        have hget : a.tmps.getD c undef = u' := by simp [Array.getD_eq_getD_getElem?, h1]
        unfold aLoad at h
        split at h
        · cases h2 with
          | ptr hb =>
            have hww : w' = w ∧ VR ρ v v' := by
              have := ok_load (P := P) (t := t) (v := v) hr (VR.ptr hb) (by unfold aLoad; exact h)
              simp only [Instr.loadAt, Instr.sureAddr, Sem.run_bind, Sem.run_pure, Result.andThen_ok] at h3
              split at h
              · rename_i cs hc hg
                obtain ⟨x, hx1, hx2⟩ := hr.cell hb hc h
                simp [loadVar, run_aggT hg, hx1] at h3
                obtain ⟨rfl, rfl⟩ := h3
                exact ⟨rfl, hx2⟩
              · rename_i cs hc hg
                split at h
                · rename_i n hn
                  split at h
                  · rename_i hle
                    cases h
                    obtain ⟨l, hl, hv, _, _⟩ := hr.loadCells (P := P) hb hc hle
                    simp [loadVar, run_aggT hg, run_szT hn, hl] at h3
                    obtain ⟨rfl, rfl⟩ := h3
                    exact ⟨rfl, .agg hv⟩
                  · cases h
                · cases h
              · cases h
            refine ⟨v', ?_, hww.2⟩
            simp only [resSem, hget, asAddr, Sem.run_bind, Sem.run_pure, Result.andThen_ok]
            simp only [Instr.loadAt, Instr.sureAddr, Sem.run_bind, Sem.run_pure, Result.andThen_ok] at h3
            rw [h3, hww.1]
        · cases h
      · cases h
  have many : ∀ (l : List ResultVar) (vs : List AV), resultsA P fr σ l = some vs → ∃ vs', (l.mapM (resSem a.tmps)).run P w = .ok vs' w ∧ VRs ρ vs vs' := by
    intro l
    induction l with
    | nil => intro vs h; cases h; exact ⟨[], by simp, .nil⟩
    | cons r l ih =>
      intro vs h
      simp only [resultsA] at h
      split at h
      · rename_i v vs2 h1 h2
        cases h
        obtain ⟨v', r1, q1⟩ := one r v h1
        obtain ⟨vs', r2, q2⟩ := ih vs2 h2
        exact ⟨v' :: vs', by simp only [List.mapM_cons, Sem.run_bind, r1, r2, Result.andThen_ok, Sem.run_pure], .cons q1 q2⟩
      · cases h
  obtain ⟨vs', hrun, hv⟩ := many _ vs e
  refine ⟨if h : (⟨vs'⟩ : Array Value).size = 1 then (⟨vs'⟩ : Array Value)[0] else .tuple ⟨vs'⟩, ?_, ?_⟩
  · rw [results_eq, Array.mapM_eq_mapM_toList]
    simp only [Sem.run_bind, Sem.run_map]
    rw [hrun]
    simp only [Result.andThen_ok, Sem.run_pure]
  · cases hv with
    | nil => exact .tup .nil
    | cons h1 t => cases t with
      | nil => exact h1
      | cons h2 t2 => simp [pack]; exact .tup (.cons h1 (.cons h2 t2))

theorem enterL_look : ∀ (l : List AV) (i t : Nat) (v : AV), lookF (enterL i l) t = some v → i ≤ t ∧ l[t - i]? = some v := by
  intro l
  induction l with
  | nil => intro i t v h; cases h
  | cons x l ih =>
    intro i t v h
    simp only [enterL, lookF] at h
    split at h
    · rename_i hit; subst hit; cases h; simp
    · rename_i hit
      obtain ⟨h1, h2⟩ := ih (i + 1) t v h
      refine ⟨by omega, ?_⟩
      rw [show t - i = (t - (i + 1)) + 1 by omega, List.getElem?_cons_succ]
      exact h2

/-- A call is a walk through the body. -/
theorem SC_body {f : Nat} {fn : Func} {c : Code} {args : List AV} {σ : AH} {Q : AV → AH → Prop} (hf : P.funcs[f]? = some fn) (hb : fn.body = some c) (hn : args.length ≤ fn.ntmps)
    (h : WP P σ.nx c (retQ P fn.results.toList Q) (AF.enter fn.ntmps args) σ) : SC P f args σ Q := by
  intro ρ args' w hv hr hg
  refine calls_of_wp hf hb ?_
  have hlen := hv.length
  have hst : St ⟨σ.nx, ρ, Wr ρ σ, w, hg⟩ (AF.enter fn.ntmps args) σ { tmps := (⟨args'⟩ : Array Value) ++ Array.replicate (fn.ntmps - (⟨args'⟩ : Array Value).size) undef, defers := [] } w := by
    refine ⟨ρ, hr, Since.start ρ σ w, ⟨?_, ?_, rfl⟩⟩
    · simp [AF.enter]; omega
    · intro t v e
      obtain ⟨h1, h2⟩ := enterL_look args 0 t v e
      simp only [Nat.sub_zero] at h2
      obtain ⟨v', h3, h4⟩ := hv.get h2
      refine ⟨v', ?_, h4⟩
      have hlt : t < args'.length := (List.getElem?_eq_some_iff.1 h3).1
      rw [Array.getElem?_append_left (by simpa using hlt)]
      simpa using h3
  refine wp_mono (h _ _ w rfl hst) ?_
  rintro e a' w' ⟨fr', σ', q, ρ', hr', hs', hfr'⟩
  have fin : retR (resultsA P fr' σ' fn.results.toList) σ' Q → a'.defers = [] ∧ ∃ v, (results fn a'.tmps).run P w' = .ok v w' ∧ ∃ v_1 v' ρ'_1 σ'_1, Ending.returned v = Ending.returned v' ∧ Q v_1 σ'_1 ∧ VR ρ'_1 v_1 v' ∧ HR ρ'_1 σ'_1 w' ∧ Since σ.nx ρ (Wr ρ σ) w ρ'_1 σ'_1 w' := by
    intro hq
    unfold retR at hq
    split at hq
    · rename_i vs hvs
      obtain ⟨v', h1, h2⟩ := results_run (fn := fn) hr' hfr' hvs
      exact ⟨hfr'.defers, v', h1, pack vs, v', ρ', σ', rfl, hq, h2, hr', hs'⟩
    · exact hq.elim
  cases e with
  | normal => exact fin q
  | ret => exact fin q
  | _ => exact q.elim

-- ------------------------------------------------------------------ loops
/-- A state is another one's: named anew, or with less told. -/
def Refines (E : Ent) (fr : AF) (σ : AH) (fr' : AF) (σ' : AH) : Prop := ∀ a w, St E fr σ a w → St E fr' σ' a w
/-- How a round ends. -/
def roundQ (Q : Exit → AF → AH → Prop) (N : AF → AH → Prop) : Exit → AF → AH → Prop
  | .normal, fr, σ => N fr σ
  | e, fr, σ => Q e fr σ
theorem WL_round {n0 : Nat} {b : Code} {Q : Exit → AF → AH → Prop} {fr : AF} {σ : AH} (h : WP P n0 b (roundQ Q (WL P n0 b Q)) fr σ) : WL P n0 b Q fr σ := by
  intro E a w hE hs b' k cs
  obtain ⟨e, a₁, w₁, ⟨fr', σ', q, hs'⟩, harr⟩ := h E a w hE hs b' (.inLoop b :: k) cs
  cases e with
  | normal =>
    obtain ⟨e₂, a₂, w₂, hq₂, harr₂⟩ := q E a₁ w₁ hE hs' b' k cs
    exact ⟨e₂, a₂, w₂, hq₂, .of_steps (Steps.trans harr (.one step_inLoop)) harr₂⟩
  | exit id => exact ⟨_, a₁, w₁, ⟨fr', σ', q, hs'⟩, .pass (x := .inLoop b) rfl (fun _ _ => .inl (by simp)) harr⟩
  | goto l => exact ⟨_, a₁, w₁, ⟨fr', σ', q, hs'⟩, .pass (x := .inLoop b) rfl (fun _ _ => .inl (by simp)) harr⟩
  | ret => exact ⟨_, a₁, w₁, ⟨fr', σ', q, hs'⟩, .pass (x := .inLoop b) rfl (fun _ _ => .inl (by simp)) harr⟩
  | panic ch => exact ⟨_, a₁, w₁, ⟨fr', σ', q, hs'⟩, .pass (x := .inLoop b) rfl (fun _ _ => .inl (by simp)) harr⟩
  | outgrown => exact ⟨_, a₁, w₁, ⟨fr', σ', q, hs'⟩, .pass (x := .inLoop b) rfl (fun _ _ => .inl (by simp)) harr⟩
/-- A loop by a family of states and a measure. -/
theorem WL_loop {n0 : Nat} {b : Code} {Q : Exit → AF → AH → Prop} {ι : Type} (T : ι → AF × AH) (μ : ι → Nat)
    (round : ∀ i, (∀ j, μ j < μ i → ∀ fr σ, (∀ E, E.n0 = n0 → Refines E fr σ (T j).1 (T j).2) → WL P n0 b Q fr σ) → WL P n0 b Q (T i).1 (T i).2) (i : ι) : WL P n0 b Q (T i).1 (T i).2 := by
  have key : ∀ n i, μ i = n → WL P n0 b Q (T i).1 (T i).2 := by
    intro n
    induction n using Nat.strongRecOn with
    | _ n ih =>
      intro i hn
      refine round i fun j hj fr σ href E a w hE hs => ?_
      exact ih (μ j) (hn ▸ hj) j rfl E a w hE (href E hE a w hs)
  exact key _ i rfl

end Go.Proofs.Yteneafgmcmgahaa.V
