/- Own library, part 12: regions that draw their order go as the text says: the theorem. -/
import Derived.Test.YteneafgmcmgahaaV11
namespace Go.Proofs.Yteneafgmcmgahaa.V
open Go
set_option linter.unusedSimpArgs false
set_option linter.unusedVariables false

variable {P : Program}

/-- Nothing that was there is written; what is new is the run's own. -/
structure NoW (σ σ1 : AH) : Prop where
  nx : σ.nx ≤ σ1.nx
  old : ∀ b, b < σ.nx → σ1.get b = σ.get b
  new : ∀ b, σ.nx ≤ b → b < σ1.nx → (σ1.get b).wr = true
theorem NoW.refl (σ : AH) : NoW σ σ := ⟨Nat.le_refl _, fun _ _ => rfl, fun b h k => by omega⟩
theorem NoW.push (σ : AH) {o : AObj} (h : o.wr = true) : NoW σ (σ.push o) :=
  ⟨by rw [AH.nx_push]; omega, fun b hb => AH.get_push_ne _ _ (by omega), fun b h1 h2 => by
    rw [AH.nx_push] at h2
    have : b = σ.nx := by omega
    subst this
    rw [AH.get_push_same]; exact h⟩
def OrcQuiet (orc : Orc) : Prop := ∀ f o, orc f = some o → ∀ as σ v σ', o as σ = some (v, σ') → NoW σ σ'

/-- An operation that writes nothing that was there. -/
def quietOp : Op → Bool
  | .store .. => false
  | .mapUpdate .. => false
  | .call c => match c.callee with
    | .builtin .append => false
    | .builtin .copy => false
    | .builtin .delete => false
    | _ => true
  | _ => true
theorem aop_quiet {op : Op} {ev : Operand → Option AV} {σ σ1 : AH} {v : AV} (hq : quietOp op = true) (h : aop P op ev σ = some (v, σ1)) : NoW σ σ1 := by
  have ret : ∀ {x : Option AV}, retV σ x = some (v, σ1) → NoW σ σ1 := fun e => by obtain ⟨_, rfl⟩ := retV_some e; exact NoW.refl _
  unfold aop at h
  split at h
  all_goals first
    | exact ret h
    | (cases h; done)
    | (obtain ⟨u, _, h2⟩ := un1_some h; exact ret h2)
    | (obtain ⟨u, u2, _, _, h2⟩ := un2_some h; exact ret h2)
    | (cases hq; done)
    | skip
  · split at h
    · split at h <;> exact ret h
    · cases h
  · unfold aAlloc at h
    split at h
    · cases h; exact NoW.push _ rfl
    · cases h
  · obtain ⟨u, _, h2⟩ := un1_some h; cases h2; exact NoW.push _ rfl
  · split at h
    · exact ret h
    · cases h
  · split at h
    · unfold aBuildSlice at h
      split at h
      · cases h
      · split at h
        · split at h
          · split at h
            · cases h; exact NoW.push _ rfl
            · cases h
          · cases h
        · cases h
    · cases h
  · obtain ⟨u, _, h2⟩ := un1_some h
    split at h2
    · cases h2; exact NoW.refl _
    · cases h2
  · split at h
    · cases h; exact NoW.refl _
    · cases h
  · obtain ⟨u, u2, _, _, h2⟩ := un2_some h
    unfold aMakeSlice at h2
    split at h2
    · split at h2
      · cases h2
      · split at h2
        · split at h2
          · cases h2; exact NoW.push _ rfl
          · cases h2
        · cases h2
    · cases h2
  · split at h
    · exact ret h
    · cases h
  · split at h
    · exact ret h
    · cases h
  · split at h
    · cases h; exact NoW.push _ rfl
    · cases h
  · rename_i c
    simp only [quietOp] at hq
    split at h
    · rename_i b hb
      rw [hb] at hq
      split at h
      · rename_i l hl
        unfold aBuiltin at h
        split at h
        · cases hq
        · cases hq
        · split at h
          · exact ret h
          · cases h
        · exact ret h
        · exact ret h
        · split at h
          · exact ret h
          · cases h
        · cases hq
        · cases h
      · cases h
    · cases h
theorem stepF_quiet {orc : Orc} (hoq : OrcQuiet orc) {all : List Oper} {o : Oper} {fr : AF} {σ σ1 : AH} {v : AV} (hq : quietOp o.op = true) (h : stepF P orc all o fr σ = some (v, σ1)) : NoW σ σ1 := by
  unfold stepF at h
  split at h
  · unfold opF at h
    split at h
    · split at h
      · split at h
        · rename_i f hf; exact hoq _ f hf _ _ _ _ h
        · cases h
      · cases h
    · exact aop_quiet hq h
  · cases h; exact NoW.refl _
  · cases h

-- ------------------------------------------------------------------ the check
/-- The operations that must be done ahead. -/
def onsOf (o : Oper) : List Nat := (o.after.toList.filter fun e => Region.binds .any e).map (·.on)
def idx (l : List Oper) (p : Nat → Oper → Bool) : Bool := l.zipIdx.all fun x => p x.2 x.1
/-- What must be done ahead of an operation, one step or many: whatever is closed under what must be done ahead holds it. -/
def Ahead (l : List Oper) (j i : Nat) : Prop :=
  ∀ D : Nat → Prop, (∀ m q, D m → l[m]? = some q → ∀ x ∈ onsOf q, D x) → (∀ o, l[j]? = some o → ∀ m ∈ onsOf o, D m) → D i
def maskStep (ms : List Nat) (os : List Nat) : Nat := os.foldr (fun i acc => acc ||| (2 ^ i ||| ms.getD i 0)) 0
def masks : List Oper → List Nat → List Nat
  | [], ms => ms
  | o :: r, ms => masks r (ms ++ [maskStep ms (onsOf o)])
theorem maskStep_bit {ms : List Nat} {i : Nat} : ∀ {os : List Nat}, (maskStep ms os).testBit i = true → ∃ m ∈ os, m = i ∨ (ms.getD m 0).testBit i = true
  | [], h => by simp [maskStep] at h
  | m :: r, h => by
    simp only [maskStep, List.foldr_cons, Nat.testBit_or, Bool.or_eq_true, Nat.testBit_two_pow, decide_eq_true_eq] at h
    rcases h with h | h | h
    · obtain ⟨x, hx, hy⟩ := maskStep_bit (os := r) h
      exact ⟨x, List.mem_cons_of_mem _ hx, hy⟩
    · exact ⟨m, by simp, .inl h⟩
    · exact ⟨m, by simp, .inr h⟩
theorem masks_reach {l : List Oper} : ∀ (r : List Oper) (ms : List Nat), l.drop ms.length = r → (∀ j i, (ms.getD j 0).testBit i = true → Ahead l j i) → ∀ j i, ((masks r ms).getD j 0).testBit i = true → Ahead l j i
  | [], ms, _, hi => hi
  | o :: r, ms, hd, hi => by
    unfold masks
    have ho : l[ms.length]? = some o := by
      have := congrArg (·[0]?) hd
      simpa using this
    refine masks_reach r _ ?_ ?_
    · rw [List.length_append, List.length_singleton, ← List.drop_drop, hd]
      rfl
    · intro j i hb
      by_cases h1 : j < ms.length
      · rw [List.getD_eq_getElem?_getD, List.getElem?_append_left h1, ← List.getD_eq_getElem?_getD] at hb
        exact hi j i hb
      · rw [List.getD_eq_getElem?_getD, List.getElem?_append_right (by omega), ← List.getD_eq_getElem?_getD] at hb
        by_cases h2 : j = ms.length
        · subst h2
          simp only [Nat.sub_self, List.getD_cons_zero] at hb
          obtain ⟨m, hm, hx⟩ := maskStep_bit hb
          intro D hc hs
          have hDm : D m := hs o ho m hm
          rcases hx with rfl | hx
          · exact hDm
          · exact hi m i hx D hc (fun q hq x hxq => hc m q hDm hq x hxq)
        · have : j - ms.length ≥ 1 := by omega
          obtain ⟨k, hk⟩ : ∃ k, j - ms.length = k + 1 := ⟨j - ms.length - 1, by omega⟩
          rw [hk] at hb
          simp at hb
/-- Do the edges bear the order of the text? The first k operations write nothing; each later one comes behind all ahead of it. -/
def drawOkM (ms : List Nat) (k : Nat) (l : List Oper) : Bool :=
  idx l fun j o =>
    (onsOf o).all (· < j) &&
    (if j < k then quietOp o.op else (List.range j).all fun i => (ms.getD j 0).testBit i) &&
    idx l fun i q => i == j || (match q.dst with
      | none => true
      | some d => o.dst != some d && (!(readsT l o).contains d || (if i < j then (ms.getD j 0).testBit i else (ms.getD i 0).testBit j)))
def drawOk (k : Nat) (l : List Oper) : Bool := drawOkM (masks l []) k l
theorem idx_spec {l : List Oper} {p : Nat → Oper → Bool} (h : idx l p = true) {j : Nat} {o : Oper} (hj : l[j]? = some o) : p j o = true := by
  unfold idx at h
  rw [List.all_eq_true] at h
  refine h (o, j) ?_
  rw [List.mem_iff_getElem?]
  exact ⟨j, by simp [hj]⟩
structure DrawSpec (k : Nat) (l : List Oper) : Prop where
  lt : ∀ (j : Nat) (o : Oper), l[j]? = some o → ∀ i ∈ onsOf o, i < j
  quiet : ∀ (j : Nat) (o : Oper), l[j]? = some o → j < k → quietOp o.op = true
  full : ∀ (j : Nat) (o : Oper), l[j]? = some o → k ≤ j → ∀ i, i < j → Ahead l j i
  dst : ∀ (i j : Nat) (p o : Oper) (d : Nat), l[i]? = some p → l[j]? = some o → i ≠ j → p.dst = some d → o.dst ≠ some d
  read : ∀ (i j : Nat) (p o : Oper) (d : Nat), l[i]? = some p → l[j]? = some o → i ≠ j → p.dst = some d → d ∈ readsT l o → (i < j → Ahead l j i) ∧ (j < i → Ahead l i j)
theorem drawOk_spec {k : Nat} {l : List Oper} (h : drawOk k l = true) : DrawSpec k l := by
  have rch : ∀ j i, ((masks l []).getD j 0).testBit i = true → Ahead l j i := masks_reach l [] (by simp) (by intro j i hb; simp at hb)
  unfold drawOk drawOkM at h
  have g := fun (j : Nat) (o : Oper) (hj : l[j]? = some o) => idx_spec h hj
  refine ⟨?_, ?_, ?_, ?_, ?_⟩
  · intro j o hj i hi
    have := g j o hj
    simp only [Bool.and_eq_true, List.all_eq_true, decide_eq_true_eq] at this
    exact this.1.1 i hi
  · intro j o hj hk
    have := g j o hj
    simp only [Bool.and_eq_true, hk, if_true] at this
    exact this.1.2
  · intro j o hj hk i hi
    have := g j o hj
    have hk' : ¬ j < k := by omega
    simp only [Bool.and_eq_true, hk', if_false, List.all_eq_true, List.mem_range] at this
    exact rch _ _ (this.1.2 i hi)
  · intro i j p o d hi hj hne hp
    have := g j o hj
    simp only [Bool.and_eq_true] at this
    have := idx_spec this.2 hi
    have hij : (i == j) = false := by simpa using hne
    simp only [hij, hp, Bool.false_or, Bool.and_eq_true, bne_iff_ne] at this
    exact this.1
  · intro i j p o d hi hj hne hp hd
    have := g j o hj
    simp only [Bool.and_eq_true] at this
    have := idx_spec this.2 hi
    have hij : (i == j) = false := by simpa using hne
    have hc : (readsT l o).contains d = true := by simpa using hd
    simp only [hij, hp, Bool.false_or, Bool.and_eq_true, hc, Bool.not_true, Bool.false_or] at this
    have := this.2
    constructor
    · intro hlt
      rw [if_pos hlt] at this
      exact rch _ _ this
    · intro hgt
      rw [if_neg (by omega)] at this
      exact rch _ _ this

-- ------------------------------------------------------------------ the text's run, by places
theorem Run.facts {orc : Orc} {all l : List Oper} {fr fr' : AF} {σ σ' : AH} {tr : List (AV × AH)} (h : Run P orc all l fr σ tr fr' σ') :
    ∃ (V : Nat → AV) (S : Nat → AH) (F : Nat → AF), S 0 = σ ∧ F 0 = fr ∧ S l.length = σ' ∧ F l.length = fr' ∧
      ∀ i o, l[i]? = some o → stepF P orc all o (F i) (S i) = some (V i, S (i + 1)) ∧ F (i + 1) = (F i).put o.dst (V i) := by
  induction h with
  | nil => rename_i fr σ; exact ⟨fun _ => unk, fun _ => σ, fun _ => fr, rfl, rfl, rfl, rfl, fun i o h => by simp at h⟩
  | cons h t ih =>
    rename_i o r fr σ v σ1 tr fr' σ'
    obtain ⟨V, S, F, h1, h2, h3, h4, h5⟩ := ih
    refine ⟨fun i => if i = 0 then v else V (i - 1), fun i => if i = 0 then σ else S (i - 1), fun i => if i = 0 then fr else F (i - 1), rfl, rfl, by simpa using h3, by simpa using h4, ?_⟩
    intro i q hq
    cases i with
    | zero =>
      simp only [List.getElem?_cons_zero, Option.some.injEq] at hq
      subst hq
      simp only [if_true, Nat.zero_add, Nat.one_ne_zero, if_false, Nat.sub_self, h1, h2]
      exact ⟨h, trivial⟩
    | succ i =>
      simp only [List.getElem?_cons_succ] at hq
      have := h5 i q hq
      simpa using this

def upto (ρ : Ren) (n : Nat) : Ren := fun b => if b < n then ρ b else none
theorem upto_some {ρ : Ren} {n b : Nat} {r : R} (h : upto ρ n b = some r) : b < n ∧ ρ b = some r := by
  unfold upto at h; split at h
  · exact ⟨by assumption, h⟩
  · cases h
theorem upto_of {ρ : Ren} {n b : Nat} {r : R} (h : b < n) (k : ρ b = some r) : upto ρ n b = some r := by simp [upto, h, k]
theorem upto_mono {ρ ρ' : Ren} {n m : Nat} (s : Sub ρ ρ') (h : n ≤ m) : Sub (upto ρ n) (upto ρ' m) := fun b r hb => by
  obtain ⟨h1, h2⟩ := upto_some hb
  exact upto_of (by omega) (s _ _ h2)

/-- The slots behind the first i operations. -/
theorem look_put {fr : AF} {dst : Option Nat} {v : AV} {t : Nat} : lookF (fr.put dst v).l t = (if dst = some t ∧ t < fr.n then some v else lookF fr.l t) := by
  unfold AF.put
  cases dst with
  | none => simp
  | some d =>
    simp only [Option.some.injEq]
    by_cases hd : d < fr.n
    · simp only [hd, if_true, lookF]
      by_cases e : d = t
      · subst e; simp [hd]
      · simp [e]
    · simp only [hd, if_false]
      by_cases e : d = t
      · subst e; simp [hd]
      · simp [e]
theorem n_put {fr : AF} {dst : Option Nat} {v : AV} : (fr.put dst v).n = fr.n := by
  unfold AF.put
  cases dst with
  | none => rfl
  | some d => simp only; split <;> rfl

section
variable {orc : Orc} {l : List Oper} {k : Nat} {V : Nat → AV} {S : Nat → AH} {F : Nat → AF}

structure Text (P : Program) (orc : Orc) (l : List Oper) (k : Nat) (V : Nat → AV) (S : Nat → AH) (F : Nat → AF) : Prop where
  spec : DrawSpec k l
  kle : k ≤ l.length
  step : ∀ i o, l[i]? = some o → stepF P orc l o (F i) (S i) = some (V i, S (i + 1)) ∧ F (i + 1) = (F i).put o.dst (V i)
  now : ∀ i, i < k → NoW (S i) (S (i + 1))

theorem Text.at {i : Nat} (h : i < l.length) : ∃ o, l[i]? = some o := ⟨l[i], by simp [h]⟩
theorem Text.n (T : Text P orc l k V S F) : ∀ i, i ≤ l.length → (F i).n = (F 0).n := by
  intro i
  induction i with
  | zero => intro _; rfl
  | succ i ih =>
    intro hi
    obtain ⟨o, ho⟩ := Text.at (l := l) (i := i) (by omega)
    rw [(T.step i o ho).2, n_put, ih (by omega)]
theorem Text.look (T : Text P orc l k V S F) (t : Nat) : ∀ i, i ≤ l.length →
    (∃ m q, m < i ∧ l[m]? = some q ∧ q.dst = some t ∧ t < (F 0).n ∧ lookF (F i).l t = some (V m)) ∨
    ((∀ m q, m < i → l[m]? = some q → q.dst = some t → ¬ t < (F 0).n) ∧ lookF (F i).l t = lookF (F 0).l t) := by
  intro i
  induction i with
  | zero => intro _; exact .inr ⟨fun m q hm => by omega, rfl⟩
  | succ i ih =>
    intro hi
    obtain ⟨o, ho⟩ := Text.at (l := l) (i := i) (by omega)
    have hs := (T.step i o ho).2
    have hn := T.n i (by omega)
    by_cases hd : o.dst = some t ∧ t < (F 0).n
    · left
      refine ⟨i, o, by omega, ho, hd.1, hd.2, ?_⟩
      rw [hs, look_put, hn, if_pos hd]
    · have he : lookF (F (i + 1)).l t = lookF (F i).l t := by rw [hs, look_put, hn, if_neg hd]
      rcases ih (by omega) with ⟨m, q, h1, h2, h3, h4, h5⟩ | ⟨h1, h2⟩
      · exact .inl ⟨m, q, by omega, h2, h3, h4, by rw [he, h5]⟩
      · refine .inr ⟨fun m q hm hq hdq ht => ?_, by rw [he, h2]⟩
        by_cases hmi : m = i
        · subst hmi
          rw [ho] at hq; cases hq
          exact hd ⟨hdq, ht⟩
        · exact h1 m q (by omega) hq hdq ht
theorem Text.nx (T : Text P orc l k V S F) : ∀ i j, i ≤ j → j ≤ k → (S i).nx ≤ (S j).nx := by
  intro i j hij
  induction hij with
  | refl => intro _; exact Nat.le_refl _
  | step h ih => intro hk; exact Nat.le_trans (ih (by omega)) (T.now _ (by omega)).nx
theorem Text.stable (T : Text P orc l k V S F) : ∀ i j, i ≤ j → j ≤ k → ∀ b, b < (S i).nx → (S j).get b = (S i).get b := by
  intro i j hij
  induction hij with
  | refl => intro _ _ _; rfl
  | step h ih =>
    rename_i m
    intro hk b hb
    rw [(T.now _ (by omega)).old b (Nat.lt_of_lt_of_le hb (T.nx _ _ h (by omega))), ih (by omega) b hb]

/-- Among the first k operations: those of a set are done. -/
structure ModeA (T : Text P orc l k V S F) (E : Ent) (D : Nat → Prop) (a : Act) (w : World) (ρ : Ren) : Prop where
  dom : ∀ b r, ρ b = some r → b < (S 0).nx ∨ ∃ i, D i ∧ i < k ∧ (S i).nx ≤ b ∧ b < (S (i + 1)).nx
  lt : ∀ b r, ρ b = some r → r.blk < w.heap.size
  obj : ∀ b r, ρ b = some r → ∀ m, m ≤ k → b < (S m).nx → OR (upto ρ (S m).nx) w r ((S k).get b)
  inj : ∀ b b' r r', b ≠ b' → ρ b = some r → ρ b' = some r' → ((S k).get b).wr = true → ((S k).get b').live = true → r.blk ≠ r'.blk
  n0 : E.n0 ≤ (S 0).nx
  since : Since E.n0 E.ρ0 E.W0 E.w0 ρ (S k) w
  size : a.tmps.size = (F 0).n
  defers : a.defers = []
  slot : ∀ i q d, D i → i < k → l[i]? = some q → q.dst = some d → d < (F 0).n → ∃ u', a.tmps[d]? = some u' ∧ VR (upto ρ (S (i + 1)).nx) (V i) u'
  inb : ∀ t u, lookF (F 0).l t = some u → t < (F 0).n
  init : ∀ t, (∀ i q, D i → i < k → l[i]? = some q → q.dst ≠ some t) → ∀ u, lookF (F 0).l t = some u → ∃ u', a.tmps[t]? = some u' ∧ VR (upto ρ (S 0).nx) u u'

theorem ModeA.start (T : Text P orc l k V S F) {E : Ent} {a : Act} {w : World} (h : St E (F 0) (S 0) a w) : ∃ ρ, ModeA T E (fun _ => False) a w ρ := by
  obtain ⟨ρ, hr, hs, hf⟩ := h
  have hnx := T.nx 0 k (Nat.zero_le _) (Nat.le_refl _)
  have st := T.stable 0 k (Nat.zero_le _) (Nat.le_refl _)
  refine ⟨ρ, ⟨fun b r hb => .inl (hr.dom b r hb), hr.lt, ?_, ?_, hs.n0le, ?_, hf.size, hf.defers, fun i q d hd => hd.elim, ?_, ?_⟩⟩
  · intro b r hb m hm hlt
    rw [st b (hr.dom b r hb)]
    refine (hr.obj b r hb).mono ?_
    intro x y hx
    exact upto_of (Nat.lt_of_lt_of_le (hr.dom x y hx) (T.nx 0 m (Nat.zero_le _) hm)) hx
  · intro b b' r r' hne h1 h2 h3 h4
    rw [st b (hr.dom b r h1)] at h3
    rw [st b' (hr.dom b' r' h2)] at h4
    exact hr.inj b b' r r' hne h1 h2 h3 h4
  · refine ⟨hs.keep, Nat.le_trans hs.n0le hnx, hs.os, hs.tape, hs.output, hs.size, hs.frame, ?_⟩
    rintro c ⟨b, r, h1, h2, h3⟩
    rw [st b (hr.dom b r h1)] at h2
    exact hs.wr c ⟨b, r, h1, h2, h3⟩
  · intro t u hu
    obtain ⟨u', h1, h2⟩ := hf.tmps t u hu
    rw [← hf.size]
    exact (Array.getElem?_eq_some_iff.1 h1).1
  · intro t _ u hu
    obtain ⟨u', h1, h2⟩ := hf.tmps t u hu
    exact ⟨u', h1, h2.mono fun x y hx => upto_of (hr.dom x y hx) hx⟩

/-- One operation among the first k. -/
theorem ModeA.step (horc : OrcOk P orc) (T : Text P orc l k V S F) {E : Ent} {D : Nat → Prop} {a : Act} {w : World} {ρ : Ren} (M : ModeA T E D a w ρ) {j : Nat} {o : Oper} (hj : l[j]? = some o) (hjk : j < k) (hD : ¬ D j)
    (hons : ∀ i ∈ onsOf o, D i) (hclosed : ∀ i q, D i → l[i]? = some q → ∀ m ∈ onsOf q, D m)
    {Q : Exit → Act → World → Prop} (next : Act → World → Prop) (hn : ∀ a' w' ρ', ModeA T E (fun i => D i ∨ i = j) a' w' ρ' → next a' w') :
    if Region.wanted o (yielded ⟨l⟩ a.tmps) then o.wp P a w next Q else next (a.put o.dst undef) w := by
  have hjl : j < l.length := (List.getElem?_eq_some_iff.1 hj).1
  have hstep := T.step j o hj
  have hnow := T.now j hjk
  have nx0j := T.nx 0 j (Nat.zero_le _) (by omega)
  have nxjk := T.nx j k (by omega) (Nat.le_refl _)
  have nxj1k := T.nx (j + 1) k (by omega) (Nat.le_refl _)
  have stj := T.stable j k (by omega) (Nat.le_refl _)
  have stj1 := T.stable (j + 1) k (by omega) (Nat.le_refl _)
  -- nothing of this operation's own is there
  have fresh : ∀ b r, ρ b = some r → (S j).nx ≤ b → b < (S (j + 1)).nx → False := by
    intro b r hb h1 h2
    rcases M.dom b r hb with h | ⟨i, hi, hik, h3, h4⟩
    · omega
    · have hij : i ≠ j := fun e => hD (e ▸ hi)
      rcases Nat.lt_or_gt_of_ne hij with hlt | hgt
      · have := T.nx (i + 1) j (by omega) (by omega); omega
      · have := T.nx (j + 1) i (by omega) (by omega); omega
  have hr : HR (upto ρ (S j).nx) (S j) w := by
    refine ⟨fun b r hb => (upto_some hb).1, fun b r hb => M.lt b r (upto_some hb).2, ?_, ?_⟩
    · intro b r hb
      obtain ⟨h1, h2⟩ := upto_some hb
      rw [← stj b h1]
      exact M.obj b r h2 j (by omega) h1
    · intro b b' r r' hne hb hb' h1 h2
      obtain ⟨g1, g2⟩ := upto_some hb
      obtain ⟨g3, g4⟩ := upto_some hb'
      rw [← stj b g1] at h1
      rw [← stj b' g3] at h2
      exact M.inj b b' r r' hne g2 g4 h1 h2
  have hgw : GOK (Wr (upto ρ (S j).nx) (S j)) w := by
    refine E.gok.of M.since.size M.since.frame ?_
    rintro c ⟨b, r, h1, h2, h3⟩
    obtain ⟨g1, g2⟩ := upto_some h1
    rw [← stj b g1] at h2
    exact M.since.wr c ⟨b, r, g2, h2, h3⟩
  have ht : ∀ t ∈ readsT l o, ∀ u, lookF (F j).l t = some u → ∃ u', a.tmps[t]? = some u' ∧ VR (upto ρ (S j).nx) u u' := by
    intro t htm u hu
    rcases T.look t j (by omega) with ⟨m, q, hm, hq, hdq, htn, hlook⟩ | ⟨hno, hlook⟩
    · rw [hlook] at hu; cases hu
      have hDm : D m := (T.spec.read m j q o t hq hj (by omega) hdq htm).1 hm D hclosed (fun o' ho' => by rw [hj] at ho'; cases ho'; exact hons)
      obtain ⟨u', h1, h2⟩ := M.slot m q t hDm (by omega) hq hdq htn
      exact ⟨u', h1, h2.mono (upto_mono (Sub.refl _) (T.nx (m + 1) j (by omega) (by omega)))⟩
    · rw [hlook] at hu
      by_cases hex : ∃ i q, D i ∧ i < k ∧ l[i]? = some q ∧ q.dst = some t
      · obtain ⟨i, q, hDi, hik, hq, hdq⟩ := hex
        have hij : i ≠ j := fun e => hD (e ▸ hDi)
        rcases Nat.lt_or_gt_of_ne hij with hlt | hgt
        · exact absurd (M.inb t u hu) (hno i q hlt hq hdq)
        · exact absurd ((T.spec.read i j q o t hq hj hij hdq htm).2 hgt D hclosed (fun o' ho' => hclosed i o' hDi ho')) hD
      · obtain ⟨u', h1, h2⟩ := M.init t (fun i q hDi hik hq hdq => hex ⟨i, q, hDi, hik, hq, hdq⟩) u hu
        exact ⟨u', h1, h2.mono (upto_mono (Sub.refl _) nx0j)⟩
  refine step_sound horc hstep.1 hr hgw ht next ?_
  intro v' ρ' w' hv hst
  have keep : ∀ b, b < (S j).nx → ρ' b = ρ b := fun b hb => by
    rw [hst.since.keep b hb]; simp [upto, hb]
  -- the names behind it
  let ρ2 : Ren := fun b => if b < (S (j + 1)).nx then ρ' b else ρ b
  have r2lo : ∀ b, b < (S (j + 1)).nx → ρ2 b = ρ' b := fun b hb => by simp [ρ2, hb]
  have r2hi : ∀ b, ¬ b < (S (j + 1)).nx → ρ2 b = ρ b := fun b hb => by simp [ρ2, hb]
  have sub : Sub ρ ρ2 := fun b r hb => by
    by_cases h1 : b < (S j).nx
    · rw [r2lo b (by have := hnow.nx; omega), keep b h1]; exact hb
    · by_cases h2 : b < (S (j + 1)).nx
      · exact (fresh b r hb (by omega) h2).elim
      · rw [r2hi b h2]; exact hb
  have sub' : Sub ρ' ρ2 := fun b r hb => by rw [r2lo b (hst.hr.dom b r hb)]; exact hb
  have wrold : ∀ c, Wr (upto ρ (S j).nx) (S j) c → Wr ρ (S k) c := fun c ⟨b, r, h1, h2, h3⟩ => by
    obtain ⟨g1, g2⟩ := upto_some h1
    exact ⟨b, r, g2, by rw [stj b g1]; exact h2, h3⟩
  have hsize := hst.since.size
  -- a block of later names is untouched
  have later : ∀ b r, ρ b = some r → ¬ b < (S (j + 1)).nx → ((S k).get b).live = true → w'.heap[r.blk]? = w.heap[r.blk]? := fun b r hb hlt hl => by
    refine hst.since.frame r.blk (M.lt b r hb) ?_
    rintro ⟨b0, r0, h1, h2, h3⟩
    obtain ⟨g1, g2⟩ := upto_some h1
    have := hnow.nx
    exact M.inj b0 b r0 r (by omega) g2 hb (by rw [stj b0 g1]; exact h2) hl h3
  -- a block of its own
  have own : ∀ b r, ρ' b = some r → (S j).nx ≤ b → b < (S (j + 1)).nx → w.heap.size ≤ r.blk := fun b r hb h1 h2 => by
    have hwr := hnow.new b h1 h2
    rcases hst.since.wr r.blk ⟨b, r, hb, hwr, rfl⟩ with ⟨b0, r0, h3, h4, h5⟩ | h
    · obtain ⟨g1, g2⟩ := upto_some h3
      have hb0 : ρ' b0 = some r0 := by rw [keep b0 g1]; exact g2
      have hw0 : ((S (j + 1)).get b0).wr = true := by rw [hnow.old b0 g1]; exact h4
      exact absurd h5 (hst.hr.inj b0 b r0 r (by omega) hb0 hb hw0 (AObj.wr_live hwr))
    · exact h
  refine hn (a.put o.dst v') w' ρ2 ⟨?_, ?_, ?_, ?_, M.n0, ?_, ?_, ?_, ?_, M.inb, ?_⟩
  · -- dom
    intro b r hb
    by_cases h1 : b < (S (j + 1)).nx
    · rw [r2lo b h1] at hb
      by_cases h2 : b < (S j).nx
      · rw [keep b h2] at hb
        rcases M.dom b r hb with h | ⟨i, h3, h4⟩
        · exact .inl h
        · exact .inr ⟨i, .inl h3, h4⟩
      · exact .inr ⟨j, .inr rfl, hjk, by omega, h1⟩
    · rw [r2hi b h1] at hb
      rcases M.dom b r hb with h | ⟨i, h3, h4⟩
      · exact .inl h
      · exact .inr ⟨i, .inl h3, h4⟩
  · -- lt
    intro b r hb
    by_cases h1 : b < (S (j + 1)).nx
    · rw [r2lo b h1] at hb; exact hst.hr.lt b r hb
    · rw [r2hi b h1] at hb; have := M.lt b r hb; omega
  · -- obj
    intro b r hb m hm hbm
    by_cases h1 : b < (S (j + 1)).nx
    · rw [r2lo b h1] at hb
      have ho := hst.hr.obj b r hb
      rw [← stj1 b h1] at ho
      by_cases hmj : j + 1 ≤ m
      · refine ho.mono fun x y hx => ?_
        exact upto_of (Nat.lt_of_lt_of_le (hst.hr.dom x y hx) (T.nx (j + 1) m hmj hm)) (sub' x y hx)
      · have hmj' : m ≤ j := by omega
        have hnx : (S m).nx ≤ (S j).nx := T.nx m j hmj' (by omega)
        have hb' : ρ b = some r := by rw [← keep b (by omega)]; exact hb
        have hold := M.obj b r hb' m hm hbm
        have := OR.restrict (w' := w') (fun x y hx => by
          obtain ⟨g1, g2⟩ := upto_some hx
          rw [keep x (by omega)]; exact g2) hold ho
        exact this.mono (upto_mono sub (Nat.le_refl _))
    · rw [r2hi b h1] at hb
      have hold := M.obj b r hb m hm hbm
      by_cases hl : ((S k).get b).live = true
      · exact (OR.of_heap (later b r hb h1 hl) hold).mono (upto_mono sub (Nat.le_refl _))
      · have : (S k).get b = .dead := by cases hq : (S k).get b <;> simp_all [AObj.live]
        rw [this]; trivial
  · -- inj
    intro b b' r r' hne hb hb' hw hl
    by_cases h1 : b < (S (j + 1)).nx <;> by_cases h2 : b' < (S (j + 1)).nx
    · rw [r2lo b h1] at hb
      rw [r2lo b' h2] at hb'
      rw [stj1 b h1] at hw
      rw [stj1 b' h2] at hl
      exact hst.hr.inj b b' r r' hne hb hb' hw hl
    · rw [r2lo b h1] at hb
      rw [r2hi b' h2] at hb'
      by_cases h3 : b < (S j).nx
      · rw [keep b h3] at hb; exact M.inj b b' r r' hne hb hb' hw hl
      · have := own b r hb (by omega) h1
        have := M.lt b' r' hb'
        omega
    · rw [r2hi b h1] at hb
      rw [r2lo b' h2] at hb'
      by_cases h3 : b' < (S j).nx
      · rw [keep b' h3] at hb'; exact M.inj b b' r r' hne hb hb' hw hl
      · have := own b' r' hb' (by omega) h2
        have := M.lt b r hb
        omega
    · rw [r2hi b h1] at hb
      rw [r2hi b' h2] at hb'
      exact M.inj b b' r r' hne hb hb' hw hl
  · -- since
    have hs := M.since
    have hn0 := M.n0
    refine ⟨?_, hs.n0le, hst.since.os.trans hs.os, hst.since.tape.trans hs.tape, hst.since.output.trans hs.output, Nat.le_trans hs.size hsize, ?_, ?_⟩
    · intro b hb
      have := hnow.nx
      rw [r2lo b (by omega), keep b (by omega)]
      exact hs.keep b hb
    · intro c hc hnw
      have := hs.size
      rw [hst.since.frame c (by omega) (fun hw => (hs.wr c (wrold c hw)).elim hnw (fun h => by omega))]
      exact hs.frame c hc hnw
    · rintro c ⟨b, r, hb, hw, rfl⟩
      by_cases h1 : b < (S (j + 1)).nx
      · rw [r2lo b h1] at hb
        rw [stj1 b h1] at hw
        rcases hst.since.wr r.blk ⟨b, r, hb, hw, rfl⟩ with h | h
        · exact hs.wr _ (wrold _ h)
        · exact .inr (Nat.le_trans hs.size h)
      · rw [r2hi b h1] at hb
        exact hs.wr _ ⟨b, r, hb, hw, rfl⟩
  · -- size
    unfold Act.put
    cases o.dst <;> simp [M.size]
  · unfold Act.put
    cases o.dst <;> simp [M.defers]
  · -- slots
    intro i q d hDi hik hq hdq hdn
    by_cases hij : i = j
    · subst hij
      rw [hj] at hq; cases hq
      refine ⟨v', ?_, hv.mono fun x y hx => upto_of (hst.hr.dom x y hx) (sub' x y hx)⟩
      simp only [Act.put, hdq]
      simp [Array.getElem?_setIfInBounds, M.size, hdn]
    · have hDi' : D i := by rcases hDi with h | h; exact h; exact absurd h hij
      obtain ⟨u', h1, h2⟩ := M.slot i q d hDi' hik hq hdq hdn
      refine ⟨u', ?_, h2.mono (upto_mono sub (Nat.le_refl _))⟩
      have hne := T.spec.dst i j q o d hq hj hij hdq
      simp only [Act.put]
      cases hod : o.dst with
      | none => exact h1
      | some d' =>
        simp only
        rw [Array.getElem?_setIfInBounds_ne (fun e => hne (by rw [hod, e]))]
        exact h1
  · -- what was there
    intro t hno u hu
    obtain ⟨u', h1, h2⟩ := M.init t (fun i q hDi hik hq => hno i q (.inl hDi) hik hq) u hu
    refine ⟨u', ?_, h2.mono (upto_mono sub (Nat.le_refl _))⟩
    have hne := hno j o (.inr rfl) hjk hj
    simp only [Act.put]
    cases hod : o.dst with
    | none => exact h1
    | some d' =>
      simp only
      rw [Array.getElem?_setIfInBounds_ne (fun e => hne (by rw [hod, e]))]
      exact h1

/-- All of the first k are done. -/
theorem ModeA.done (T : Text P orc l k V S F) {E : Ent} {D : Nat → Prop} {a : Act} {w : World} {ρ : Ren} (M : ModeA T E D a w ρ) (hall : ∀ i, i < k → D i) : St E (F k) (S k) a w := by
  have hn := T.n k T.kle
  refine ⟨ρ, ⟨?_, M.lt, ?_, M.inj⟩, M.since, ⟨by rw [hn]; exact M.size, ?_, M.defers⟩⟩
  · intro b r hb
    rcases M.dom b r hb with h | ⟨i, _, hik, h1, h2⟩
    · exact Nat.lt_of_lt_of_le h (T.nx 0 k (Nat.zero_le _) (Nat.le_refl _))
    · exact Nat.lt_of_lt_of_le h2 (T.nx (i + 1) k (by omega) (Nat.le_refl _))
  · intro b r hb
    have hbk : b < (S k).nx := by
      rcases M.dom b r hb with h | ⟨i, _, hik, h1, h2⟩
      · exact Nat.lt_of_lt_of_le h (T.nx 0 k (Nat.zero_le _) (Nat.le_refl _))
      · exact Nat.lt_of_lt_of_le h2 (T.nx (i + 1) k (by omega) (Nat.le_refl _))
    exact (M.obj b r hb k (Nat.le_refl _) hbk).mono fun x y hx => (upto_some hx).2
  · intro t u hu
    rcases T.look t k T.kle with ⟨m, q, hm, hq, hdq, htn, hlook⟩ | ⟨hno, hlook⟩
    · rw [hlook] at hu; cases hu
      obtain ⟨u', h1, h2⟩ := M.slot m q t (hall m hm) hm hq hdq htn
      exact ⟨u', h1, h2.mono fun x y hx => (upto_some hx).2⟩
    · rw [hlook] at hu
      have htn := M.inb t u hu
      obtain ⟨u', h1, h2⟩ := M.init t (fun i q _ hik hq hdq => hno i q hik hq hdq htn) u hu
      exact ⟨u', h1, h2.mono fun x y hx => (upto_some hx).2⟩
end

theorem getD_set (L : Array Bool) (i j : Nat) (hi : i < L.size) : (L.setIfInBounds i true).getD j false = true ↔ (L.getD j false = true ∨ j = i) := by
  simp only [Array.getD_eq_getD_getElem?, Array.getElem?_setIfInBounds]
  by_cases h : i = j
  · subst h; simp [hi]
  · simp [h, Ne.symm h]

/-- A region that draws its order, whose edges bear it, goes as the text says. -/
theorem draw_sound {orc : Orc} (horc : OrcOk P orc) (hoq : OrcQuiet orc) (hmix : P.follows .mixedOrders = true) {ops : Array Oper} (k : Nat) (hk : k ≤ ops.toList.length) (h : drawOk k ops.toList = true) : DrawOk P orc ops := by
  intro id K fr σ E a w hD hst
  have spec := drawOk_spec h
  obtain ⟨tr, fr', σ', hrun, hK⟩ := opsD_run _ _ _ hD
  obtain ⟨V, S, F, hS0, hF0, hSn, hFn, hstep⟩ := hrun.facts
  generalize hl : ops.toList = l at *
  have hops : ops = ⟨l⟩ := by rw [← hl]
  have hsize : ops.size = l.length := by rw [hops]; rfl
  have T : Text P orc l k V S F := ⟨spec, hk, hstep, fun i hik => by
    obtain ⟨o, ho⟩ := Text.at (l := l) (i := i) (by omega)
    exact stepF_quiet hoq (spec.quiet i o ho hik) (hstep i o ho).1⟩
  subst hS0 hF0 hSn hFn
  refine wp_region_any hmix ?_
  have hst1 : St E (F 0) (S 0) a { w with drawn := w.drawn + 1 } := by
    obtain ⟨ρ, h1, h2, h3⟩ := hst
    exact ⟨ρ, h1.of_heap rfl, h2.of_heap rfl rfl rfl rfl, h3⟩
  let Q : Exit → Act → World → Prop := fun e a' w' => e = .normal ∧ ∃ fr' σ', K fr' σ' ∧ St E fr' σ' a' w'
  have key : ∀ (fuel : Nat) (L : Array Bool) (a : Act) (w : World), L.size = l.length → l.length ≤ fuel + (List.range l.length).countP (fun i => L.getD i false) →
      (∀ i q, L.getD i false = true → l[i]? = some q → ∀ m ∈ onsOf q, L.getD m false = true) →
      ((∀ i, L.getD i false = true → i < k) ∧ ∃ ρ, ModeA T E (fun i => L.getD i false = true) a w ρ) ∨ (∃ m, k ≤ m ∧ m ≤ l.length ∧ (∀ i, L.getD i false = true ↔ i < m) ∧ St E (F m) (S m) a w) →
      wpAny P .any ops Q fuel L a w := by
    intro fuel
    induction fuel with
    | zero =>
      intro L a w hL hcard hcl hmode
      have hall : ∀ i, i < l.length → L.getD i false = true := by
        intro i hi
        have hle := List.countP_le_length (p := fun i => L.getD i false) (l := List.range l.length)
        have heq : (List.range l.length).countP (fun i => L.getD i false) = (List.range l.length).length := by rw [List.length_range] at hle ⊢; omega
        rw [List.countP_eq_length] at heq
        exact heq i (by simpa using hi)
      refine ⟨?_, rfl, F l.length, S l.length, hK, ?_⟩
      · unfold Region.ready
        rw [List.filter_eq_nil_iff]
        intro i hi
        have hi' : i < l.length := by rw [← hsize]; simpa using hi
        have := hall i hi'
        have hlt : i < L.size := by omega
        simp only [Array.getD_eq_getD_getElem?, Array.getElem?_eq_getElem hlt, Option.getD_some] at this ⊢
        simp [this]
      · rcases hmode with ⟨hlt, ρ, M⟩ | ⟨m, hkm, hml, hiff, hs⟩
        · have hkl : k = l.length := by
            rcases Nat.lt_or_ge k l.length with q | q
            · exact absurd (hlt k (hall k q)) (by omega)
            · omega
          have := M.done T (fun i hi => hall i (by omega))
          rwa [hkl] at this
        · have : m = l.length := by
            rcases Nat.lt_or_ge m l.length with q | q
            · exact absurd ((hiff m).1 (hall m q)) (by omega)
            · omega
          rwa [this] at hs
    | succ fuel ih =>
      intro L a w hL hcard hcl hmode
      constructor
      · -- all are done
        intro hnil
        have hall : ∀ i, i < l.length → L.getD i false = true := by
          intro i
          induction i using Nat.strongRecOn with
          | _ i ihi =>
            intro hi
            obtain ⟨o, ho⟩ := Text.at (l := l) (i := i) hi
            apply Classical.byContradiction
            intro hno
            have hmem : i ∈ Region.ready .any ops L := by
              unfold Region.ready
              rw [List.mem_filter]
              refine ⟨by rw [hsize]; simpa using hi, ?_⟩
              have hlt : i < L.size := by omega
              have ho' : ops[i]? = some o := by rw [hops]; simpa using ho
              simp only [Bool.and_eq_true, ho', Option.map_some, Option.getD_some]
              constructor
              · simp only [Array.getD_eq_getD_getElem?, Array.getElem?_eq_getElem hlt, Option.getD_some] at hno ⊢
                simpa using hno
              · rw [Array.all_eq_true']
                intro e he
                by_cases hb : Region.binds .any e = true
                · have hon : e.on ∈ onsOf o := by
                    simp only [onsOf, List.mem_map, List.mem_filter]
                    exact ⟨e, ⟨by simpa using he, hb⟩, rfl⟩
                  have hlt2 := spec.lt i o ho _ hon
                  simp [ihi e.on hlt2 (by omega)]
                · simp [hb]
            rw [hnil] at hmem
            cases hmem
        refine ⟨rfl, F l.length, S l.length, hK, ?_⟩
        rcases hmode with ⟨hlt, ρ, M⟩ | ⟨m, hkm, hml, hiff, hs⟩
        · have hkl : k = l.length := by
            rcases Nat.lt_or_ge k l.length with q | q
            · exact absurd (hlt k (hall k q)) (by omega)
            · omega
          have := M.done T (fun i hi => hall i (by omega))
          rwa [hkl] at this
        · have : m = l.length := by
            rcases Nat.lt_or_ge m l.length with q | q
            · exact absurd ((hiff m).1 (hall m q)) (by omega)
            · omega
          rwa [this] at hs
      · -- one more
        intro i hi
        unfold Region.ready at hi
        rw [List.mem_filter] at hi
        obtain ⟨hin, hrd⟩ := hi
        have hil : i < l.length := by rw [← hsize]; simpa using hin
        obtain ⟨o, ho⟩ := Text.at (l := l) (i := i) hil
        have ho' : ops[i]? = some o := by rw [hops]; simpa using ho
        have hlt : i < L.size := by omega
        simp only [Bool.and_eq_true, ho', Option.map_some, Option.getD_some] at hrd
        obtain ⟨hnl, haft⟩ := hrd
        have hnot : ¬ L.getD i false = true := by
          simp only [Array.getD_eq_getD_getElem?, Array.getElem?_eq_getElem hlt, Option.getD_some] at hnl ⊢
          simpa using hnl
        have hons : ∀ m ∈ onsOf o, L.getD m false = true := by
          intro m hm
          simp only [onsOf, List.mem_map, List.mem_filter] at hm
          obtain ⟨e, ⟨he, hb⟩, rfl⟩ := hm
          rw [Array.all_eq_true'] at haft
          have := haft e (by simpa using he)
          simpa [hb] using this
        have hself : ∀ o', l[i]? = some o' → ∀ m ∈ onsOf o', L.getD m false = true := fun o' ho' => by rw [ho] at ho'; cases ho'; exact hons
        -- what is listed behind it
        have hset : ∀ m, (L.setIfInBounds i true).getD m false = true ↔ (L.getD m false = true ∨ m = i) := fun m => getD_set L i m hlt
        have hL' : (L.setIfInBounds i true).size = l.length := by simpa using hL
        have hcl' : ∀ m q, (L.setIfInBounds i true).getD m false = true → l[m]? = some q → ∀ x ∈ onsOf q, (L.setIfInBounds i true).getD x false = true := by
          intro m q hm hq x hx
          rw [hset] at hm ⊢
          rcases hm with hm | rfl
          · exact .inl (hcl m q hm hq x hx)
          · rw [ho] at hq; cases hq
            exact .inl (hons x hx)
        have hcard' : l.length ≤ fuel + (List.range l.length).countP (fun m => (L.setIfInBounds i true).getD m false) := by
          have : (List.range l.length).countP (fun m => L.getD m false) + 1 ≤ (List.range l.length).countP (fun m => (L.setIfInBounds i true).getD m false) := by
            have e : List.range l.length = List.range i ++ i :: (List.range' (i + 1) (l.length - (i + 1))) := by
              rw [List.range_eq_range', List.range_eq_range']
              have h1 : List.range' 0 l.length = List.range' 0 i ++ List.range' i (l.length - i) := by
                have := List.range'_append (s := 0) (m := i) (n := l.length - i) (step := 1)
                simp only [Nat.one_mul, Nat.zero_add] at this
                rw [this]
                congr 1
                omega
              rw [h1, show l.length - i = (l.length - (i + 1)) + 1 by omega, List.range'_succ]
            rw [e, List.countP_append, List.countP_append, List.countP_cons_of_pos (p := fun m => (L.setIfInBounds i true).getD m false) (by rw [hset]; exact .inr rfl), List.countP_cons_of_neg (by simpa using hnot)]
            have m1 : (List.range i).countP (fun m => L.getD m false) ≤ (List.range i).countP (fun m => (L.setIfInBounds i true).getD m false) :=
              List.countP_mono_left (fun m _ hm => by rw [hset]; exact .inl hm)
            have m2 : (List.range' (i + 1) (l.length - (i + 1))).countP (fun m => L.getD m false) ≤ (List.range' (i + 1) (l.length - (i + 1))).countP (fun m => (L.setIfInBounds i true).getD m false) :=
              List.countP_mono_left (fun m _ hm => by rw [hset]; exact .inl hm)
            omega
          omega
        have conv : (if Region.wanted o (yielded ⟨l⟩ a.tmps) then o.wp P a w (wpAny P .any ops Q fuel (L.setIfInBounds i true)) Q else wpAny P .any ops Q fuel (L.setIfInBounds i true) (a.put o.dst undef) w) →
            wpOp P ops Q i (wpAny P .any ops Q fuel (L.setIfInBounds i true)) a w := by
          intro hq
          unfold wpOp
          simp only [ho']
          rw [hops] at hq ⊢
          split at hq
          · rename_i hw; rw [if_pos hw]; exact .inl hq
          · rename_i hw; rw [if_neg hw]; exact hq
        -- from a state that stands for the text's
        have fromB : ∀ m, k ≤ m → (∀ x, L.getD x false = true ↔ x < m) → St E (F m) (S m) a w → i = m → wpOp P ops Q i (wpAny P .any ops Q fuel (L.setIfInBounds i true)) a w := by
          intro m hkm hiff hs him
          subst him
          obtain ⟨ρ, hr, hsn, hf⟩ := hs
          refine conv (step_sound horc (hstep i o ho).1 hr (hsn.gok E.gok) (fun t _ u hu => hf.tmps t u hu) _ ?_)
          intro v' ρ' w' hv hstp
          refine ih _ _ _ hL' hcard' hcl' (.inr ⟨i + 1, by omega, by omega, ?_, ρ', hstp.hr, hsn.of_step hstp, ?_⟩)
          · intro x
            rw [hset, hiff]
            omega
          · rw [(hstep i o ho).2]
            exact (hf.mono hstp.sub).put o.dst hv
        rcases hmode with ⟨hltk, ρ, M⟩ | ⟨m, hkm, hml, hiff, hs⟩
        · by_cases hik : i < k
          · refine conv (M.step horc T ho hik hnot hons (fun x q hx hq => hcl x q hx hq) _ ?_)
            intro a' w' ρ' M'
            have hfun : (fun m => (L.setIfInBounds i true).getD m false = true) = (fun m => L.getD m false = true ∨ m = i) := funext fun m => propext (hset m)
            refine ih _ _ _ hL' hcard' hcl' (.inl ⟨?_, ρ', by rw [hfun]; exact M'⟩)
            intro m hm
            rw [hset] at hm
            rcases hm with hm | rfl
            · exact hltk m hm
            · exact hik
          · have hik2 : i = k := by
              rcases Nat.lt_or_ge k i with q | q
              · have := hltk k (spec.full i o ho (by omega) k q (fun m => L.getD m false = true) hcl hself); omega
              · omega
            have hallk : ∀ x, x < k → L.getD x false = true := fun x hx => spec.full i o ho (by omega) x (by omega) (fun m => L.getD m false = true) hcl hself
            exact fromB k (Nat.le_refl _) (fun x => ⟨fun hx => hltk x hx, fun hx => hallk x hx⟩) (M.done T hallk) hik2
        · have him : i = m := by
            have h1 : ¬ i < m := fun hx => hnot ((hiff i).2 hx)
            rcases Nat.lt_or_ge m i with q | q
            · have := (hiff m).1 (spec.full i o ho (by omega) m q (fun m => L.getD m false = true) hcl hself); omega
            · omega
          exact fromB m hkm hiff hs him
  refine key ops.size (Array.replicate ops.size false) a _ (by simp [hsize]) (by omega) ?_ (.inl ⟨?_, ?_⟩)
  · intro i q hi
    simp [Array.getD_eq_getD_getElem?, Array.getElem?_replicate] at hi
    split at hi <;> simp at hi
  · intro i hi
    simp [Array.getD_eq_getD_getElem?, Array.getElem?_replicate] at hi
    split at hi <;> simp at hi
  · obtain ⟨ρ, M⟩ := ModeA.start T hst1
    refine ⟨ρ, ?_⟩
    have : (fun i => (Array.replicate ops.size false).getD i false = true) = fun _ => False := by
      funext i
      simp [Array.getD_eq_getD_getElem?, Array.getElem?_replicate]
      split <;> simp
    rw [this]
    exact M

end Go.Proofs.Yteneafgmcmgahaa.V
