/- Own library, part 19: regions that draw their order, by what each operation may write. -/
import Derived.Test.YteneafgmcmgahaaV12
namespace Go.Proofs.Yteneafgmcmgahaa.V
open Go
set_option linter.unusedSimpArgs false
set_option linter.unusedVariables false

variable {P : Program}

-- ------------------------------------------------------------------ what an operation sees, what it leaves
def memN (b : Nat) : List Nat → Bool
  | [] => false
  | c :: r => if Nat.beq b c = true then true else memN b r
theorem memN_iff {b : Nat} {l : List Nat} : memN b l = true ↔ b ∈ l := by
  induction l with
  | nil => simp [memN]
  | cons c r ih =>
    unfold memN
    by_cases h : Nat.beq b c = true
    · rw [if_pos h]; simp [Nat.eq_of_beq_eq_true h]
    · rw [if_neg h, ih, List.mem_cons]
      constructor
      · exact .inr
      · rintro (rfl | h2)
        · simp at h
        · exact h2
theorem memN_not {b : Nat} {l : List Nat} : memN b l = false ↔ b ∉ l := by
  rw [← memN_iff]; simp
/-- A block that may only be read. -/
def AObj.toRo : AObj → AObj
  | .cells _ cs => .ro cs
  | .opn _ _ cs => .ro cs
  | .ro cs => .ro cs
  | _ => .dead
theorem AObj.toRo_wr (o : AObj) : o.toRo.wr = false := by cases o <;> rfl
theorem AObj.toRo_live {o : AObj} (h : o.toRo.live = true) : o.live = true := by cases o <;> first | rfl | cases h
theorem OR.toRo {ρ : Ren} {w : World} {r : R} {o : AObj} (h : OR ρ w r o) : OR ρ w r o.toRo := by
  cases o with
  | cells e cs => obtain ⟨a, l, b, c⟩ := h; exact ⟨[], l, [], e, (0, 0), by simpa using b, by simp [a], c⟩
  | opn e z cs => obtain ⟨a, _, _, l, m, b, c, _⟩ := h; exact ⟨[], l, m, e, (0, 0), by simpa using b, by simp [a], c⟩
  | ro cs => exact h
  | mp es => trivial
  | dead => trivial
def viewH (fp kl : List Nat) : List (Nat × AObj) → List (Nat × AObj)
  | [] => []
  | (k, o) :: r => (k, if memN k kl = true then .dead else if memN k fp = true then o else o.toRo) :: viewH fp kl r
def view (fp kl : List Nat) (σ : AH) : AH := ⟨σ.nx, viewH fp kl σ.m⟩
theorem view_nx {fp kl : List Nat} {σ : AH} : (view fp kl σ).nx = σ.nx := rfl
theorem view_get {fp kl : List Nat} {σ : AH} {b : Nat} : (view fp kl σ).get b = if b ∈ kl then .dead else if b ∈ fp then σ.get b else (σ.get b).toRo := by
  unfold AH.get view
  simp only
  generalize σ.m = m
  induction m with
  | nil => simp [viewH, lookH, AObj.toRo]
  | cons p r ih =>
    obtain ⟨k, o⟩ := p
    by_cases h : k = b
    · subst h
      simp only [viewH, lookH, if_true, memN_iff]
    · simp only [viewH, lookH, h, if_false, ih]
def keepT (n : Nat) (fp : List Nat) : List (Nat × AObj) → List (Nat × AObj)
  | [] => []
  | (k, o) :: r => if Nat.blt k n = true then (if memN k fp = true then (k, o) :: keepT n fp r else keepT n fp r) else (k, o) :: keepT n fp r
def keepS (n : Nat) (fp : List Nat) : List (Nat × AObj) → List (Nat × AObj)
  | [] => []
  | (k, o) :: r => if Nat.blt k n = true then (if memN k fp = true then keepS n fp r else (k, o) :: keepS n fp r) else keepS n fp r
/-- What an operation leaves: of what it may write what it left, all else as it was. -/
def merge (fp : List Nat) (σ τ : AH) : AH := ⟨τ.nx, keepT σ.nx fp τ.m ++ keepS σ.nx fp σ.m⟩
theorem blt_iff {a b : Nat} : Nat.blt a b = true ↔ a < b := by simp [Nat.blt]; omega
def Merged (fp : List Nat) (σ τ σ' : AH) : Prop := σ'.nx = τ.nx ∧ ∀ b, b < τ.nx → σ'.get b = if b < σ.nx ∧ b ∉ fp then σ.get b else τ.get b
theorem merge_ok (fp : List Nat) (σ τ : AH) : Merged fp σ τ (merge fp σ τ) := by
  refine ⟨rfl, fun b _ => ?_⟩
  have h1 : ∀ (m m2 : List (Nat × AObj)), b < σ.nx ∧ b ∉ fp → lookH (keepT σ.nx fp m ++ m2) b = lookH m2 b := by
    intro m m2 hb
    induction m with
    | nil => rfl
    | cons p r ih =>
      obtain ⟨k, o⟩ := p
      unfold keepT
      split
      · split
        · rename_i hk hm
          have : k ≠ b := fun e => hb.2 (by rw [← e]; exact memN_iff.1 hm)
          simp [lookH, this, ih]
        · exact ih
      · rename_i hk
        have : k ≠ b := fun e => hk (by rw [e]; exact blt_iff.2 hb.1)
        simp [lookH, this, ih]
  have h2 : ∀ (m m2 : List (Nat × AObj)), ¬ (b < σ.nx ∧ b ∉ fp) → lookH m2 b = .dead → lookH (keepT σ.nx fp m ++ m2) b = lookH m b := by
    intro m m2 hb h0
    induction m with
    | nil => simpa [keepT, lookH] using h0
    | cons p r ih =>
      obtain ⟨k, o⟩ := p
      unfold keepT
      by_cases e : k = b
      · subst e
        split
        · rename_i hk
          split
          · simp [lookH]
          · rename_i hm
            exact absurd ⟨blt_iff.1 hk, fun q => hm (memN_iff.2 q)⟩ hb
        · simp [lookH]
      · split
        · split
          · simp [lookH, e, ih]
          · simp [lookH, e, ih]
        · simp [lookH, e, ih]
  have h3 : ∀ (m : List (Nat × AObj)), b < σ.nx ∧ b ∉ fp → lookH (keepS σ.nx fp m) b = lookH m b := by
    intro m hb
    induction m with
    | nil => rfl
    | cons p r ih =>
      obtain ⟨k, o⟩ := p
      unfold keepS
      by_cases e : k = b
      · subst e
        rw [if_pos (blt_iff.2 hb.1), if_neg (fun q => hb.2 (memN_iff.1 q))]
        simp [lookH]
      · split
        · split
          · simp [lookH, e, ih]
          · simp [lookH, e, ih]
        · simp [lookH, e, ih]
  have h4 : ∀ (m : List (Nat × AObj)), ¬ (b < σ.nx ∧ b ∉ fp) → lookH (keepS σ.nx fp m) b = .dead := by
    intro m hb
    induction m with
    | nil => rfl
    | cons p r ih =>
      obtain ⟨k, o⟩ := p
      unfold keepS
      split
      · split
        · exact ih
        · rename_i hk hm
          have : k ≠ b := fun e => hb ⟨by rw [← e]; exact blt_iff.1 hk, fun q => hm (by rw [e]; exact memN_iff.2 q)⟩
          simp [lookH, this, ih]
      · exact ih
  unfold merge AH.get
  simp only
  by_cases hb : b < σ.nx ∧ b ∉ fp
  · rw [if_pos hb, h1 _ _ hb, h3 _ hb]
  · rw [if_neg hb, h2 _ _ hb (h4 _ hb)]
def newOk (τ : AH) : Nat → Nat → Bool
  | 0, _ => true
  | k + 1, b => ((τ.get b).wr || !(τ.get b).live) && newOk τ k (b + 1)
theorem newOk_spec {τ : AH} : ∀ {k n : Nat}, newOk τ k n = true → ∀ b, n ≤ b → b < n + k → (τ.get b).live = true → (τ.get b).wr = true
  | 0, n, _, b, h1, h2, _ => by omega
  | k + 1, n, h, b, h1, h2, hl => by
    unfold newOk at h
    rw [Bool.and_eq_true] at h
    by_cases e : b = n
    · subst e
      have := h.1
      rw [hl] at this
      simpa using this
    · exact newOk_spec h.2 b (by omega) (by omega) hl
def chkX (fp kl : List Nat) (σ τ : AH) : Bool :=
  Nat.ble σ.nx τ.nx && fp.all (fun b => Nat.blt b σ.nx && !memN b kl && ((σ.get b).live || !(τ.get b).live)) && kl.all (fun b => Nat.blt b σ.nx || Nat.ble τ.nx b) && newOk τ (τ.nx - σ.nx) σ.nx

-- ------------------------------------------------------------------ the text's run
structure XSpec (l : List Oper) (fp kl : Nat → List Nat) : Prop where
  lt : ∀ (j : Nat) (o : Oper), l[j]? = some o → ∀ i ∈ onsOf o, i < j
  dst : ∀ (i j : Nat) (p o : Oper) (d : Nat), l[i]? = some p → l[j]? = some o → i ≠ j → p.dst = some d → o.dst ≠ some d
  read : ∀ (i j : Nat) (p o : Oper) (d : Nat), l[i]? = some p → l[j]? = some o → i ≠ j → p.dst = some d → d ∈ readsT l o → (i < j → Ahead l j i) ∧ (j < i → Ahead l i j)
  kills : ∀ i j, i < l.length → j < l.length → i ≠ j → ¬ Ahead l i j → ¬ Ahead l j i → ∀ b ∈ fp j, b ∈ kl i

structure XText (P : Program) (orc : Orc) (l : List Oper) (fp kl : Nat → List Nat) (V : Nat → AV) (S T : Nat → AH) (F : Nat → AF) : Prop where
  spec : XSpec l fp kl
  step : ∀ i o, l[i]? = some o → stepF P orc l o (F i) (view (fp i) (kl i) (S i)) = some (V i, T i) ∧ F (i + 1) = (F i).put o.dst (V i)
  nx : ∀ i, i < l.length → (S i).nx ≤ (S (i + 1)).nx ∧ (S (i + 1)).nx = (T i).nx
  get : ∀ i, i < l.length → ∀ b, b < (S (i + 1)).nx → (S (i + 1)).get b = if b < (S i).nx ∧ b ∉ fp i then (S i).get b else (T i).get b
  kz : ∀ i, i < l.length → ∀ b ∈ kl i, b < (S i).nx ∨ (S (i + 1)).nx ≤ b
  disj : ∀ i, i < l.length → ∀ b ∈ fp i, b ∉ kl i
  fplt : ∀ i, i < l.length → ∀ b ∈ fp i, b < (S i).nx
  rev : ∀ i, i < l.length → ∀ b ∈ fp i, ((T i).get b).live = true → ((S i).get b).live = true
  new : ∀ i, i < l.length → ∀ b, (S i).nx ≤ b → b < (S (i + 1)).nx → ((T i).get b).live = true → ((T i).get b).wr = true

section
variable {orc : Orc} {l : List Oper} {fp kl : Nat → List Nat} {V : Nat → AV} {S T : Nat → AH} {F : Nat → AF}

theorem XText.n (X : XText P orc l fp kl V S T F) : ∀ i, i ≤ l.length → (F i).n = (F 0).n := by
  intro i
  induction i with
  | zero => intro _; rfl
  | succ i ih =>
    intro hi
    obtain ⟨o, ho⟩ := Text.at (l := l) (i := i) (by omega)
    rw [(X.step i o ho).2, n_put, ih (by omega)]
theorem XText.look (X : XText P orc l fp kl V S T F) (t : Nat) : ∀ i, i ≤ l.length →
    (∃ m q, m < i ∧ l[m]? = some q ∧ q.dst = some t ∧ t < (F 0).n ∧ lookF (F i).l t = some (V m)) ∨
    ((∀ m q, m < i → l[m]? = some q → q.dst = some t → ¬ t < (F 0).n) ∧ lookF (F i).l t = lookF (F 0).l t) := by
  intro i
  induction i with
  | zero => intro _; exact .inr ⟨fun m q hm => by omega, rfl⟩
  | succ i ih =>
    intro hi
    obtain ⟨o, ho⟩ := Text.at (l := l) (i := i) (by omega)
    have hs := (X.step i o ho).2
    have hn := X.n i (by omega)
    by_cases hd : o.dst = some t ∧ t < (F 0).n
    · left
      refine ⟨i, o, by omega, ho, hd.1, hd.2, ?_⟩
      rw [hs, look_put, hn, if_pos hd]
    · have he : lookF (F (i + 1)).l t = lookF (F i).l t := by rw [hs, look_put, hn, if_neg hd]
      rcases ih (by omega) with ⟨m, q, h1, h2, h3, h4, h5⟩ | ⟨h1, h2⟩
      · exact .inl ⟨m, q, by omega, h2, h3, h4, by rw [he, h5]⟩
      · refine .inr ⟨fun m q hm hq hdq ht => ?_, by rw [he, h2]⟩
        by_cases hmi : m = i
        · subst hmi
          rw [ho] at hq; cases hq
          exact hd ⟨hdq, ht⟩
        · exact h1 m q (by omega) hq hdq ht
theorem XText.nxm (X : XText P orc l fp kl V S T F) : ∀ i j, i ≤ j → j ≤ l.length → (S i).nx ≤ (S j).nx := by
  intro i j hij
  induction hij with
  | refl => intro _; exact Nat.le_refl _
  | step h ih => intro hk; exact Nat.le_trans (ih (by omega)) (X.nx _ (by omega)).1
theorem XText.same (X : XText P orc l fp kl V S T F) (b : Nat) : ∀ i j, i ≤ j → j ≤ l.length → b < (S i).nx → (∀ m, i ≤ m → m < j → b ∉ fp m) → (S j).get b = (S i).get b := by
  intro i j hij
  induction hij with
  | refl => intro _ _ _; rfl
  | step h ih =>
    rename_i m
    intro hk hb hno
    have hm := X.nxm i m h (by omega)
    have h1 := X.nx m (by omega)
    rw [X.get m (by omega) b (by omega), if_pos ⟨by omega, hno m h (by omega)⟩]
    exact ih (by omega) hb (fun q h2 h3 => hno q h2 (by omega))

/-- Of a block's writers just those below t are done. -/
def OkT (l : List Oper) (fp : Nat → List Nat) (D : Nat → Prop) (b t : Nat) : Prop := ∀ m, m < l.length → b ∈ fp m → (D m ↔ m < t)

/-- Those of a set are done. -/
structure ModeX (X : XText P orc l fp kl V S T F) (E : Ent) (D : Nat → Prop) (a : Act) (w : World) (ρ : Ren) : Prop where
  dom : ∀ b r, ρ b = some r → b < (S 0).nx ∨ ∃ i, D i ∧ i < l.length ∧ (S i).nx ≤ b ∧ b < (S (i + 1)).nx
  lt : ∀ b r, ρ b = some r → r.blk < w.heap.size
  obj : ∀ b r, ρ b = some r → ∀ t, t ≤ l.length → b < (S t).nx → OkT l fp D b t → OR (upto ρ (S t).nx) w r ((S t).get b)
  inj : ∀ b b' r r', b ≠ b' → ρ b = some r → ρ b' = some r' → ∀ t t', t ≤ l.length → t' ≤ l.length → b < (S t).nx → b' < (S t').nx → OkT l fp D b t → OkT l fp D b' t' →
    ((S t).get b).wr = true → ((S t').get b').live = true → r.blk ≠ r'.blk
  n0 : E.n0 ≤ (S 0).nx
  keep : ∀ b, b < E.n0 → ρ b = E.ρ0 b
  os : w.os = E.w0.os
  tape : w.tape = E.w0.tape
  output : w.output = E.w0.output
  hsize : E.w0.heap.size ≤ w.heap.size
  frame : ∀ c, c < E.w0.heap.size → ¬ E.W0 c → w.heap[c]? = E.w0.heap[c]?
  wrs : ∀ b r, ρ b = some r → ∀ t, t ≤ l.length → b < (S t).nx → OkT l fp D b t → ((S t).get b).wr = true → E.W0 r.blk ∨ E.w0.heap.size ≤ r.blk
  size : a.tmps.size = (F 0).n
  defers : a.defers = []
  slot : ∀ i q d, D i → i < l.length → l[i]? = some q → q.dst = some d → d < (F 0).n → ∃ u', a.tmps[d]? = some u' ∧ VR (upto ρ (S (i + 1)).nx) (V i) u'
  inb : ∀ t u, lookF (F 0).l t = some u → t < (F 0).n
  init : ∀ t, (∀ i q, D i → i < l.length → l[i]? = some q → q.dst ≠ some t) → ∀ u, lookF (F 0).l t = some u → ∃ u', a.tmps[t]? = some u' ∧ VR (upto ρ (S 0).nx) u u'

theorem ModeX.start (X : XText P orc l fp kl V S T F) {E : Ent} {a : Act} {w : World} (h : St E (F 0) (S 0) a w) : ∃ ρ, ModeX X E (fun _ => False) a w ρ := by
  obtain ⟨ρ, hr, hs, hf⟩ := h
  have st : ∀ b r t, ρ b = some r → t ≤ l.length → OkT l fp (fun _ => False) b t → (S t).get b = (S 0).get b := fun b r t hb ht hok =>
    X.same b 0 t (Nat.zero_le _) ht (hr.dom b r hb) (fun m _ h2 h3 => (hok m (by omega) h3).2 h2)
  refine ⟨ρ, ⟨fun b r hb => .inl (hr.dom b r hb), hr.lt, ?_, ?_, hs.n0le, hs.keep, hs.os, hs.tape, hs.output, hs.size, hs.frame, ?_, hf.size, hf.defers, fun i q d hd => hd.elim, ?_, ?_⟩⟩
  · intro b r hb t ht hlt hok
    rw [st b r t hb ht hok]
    refine (hr.obj b r hb).mono ?_
    intro x y hx
    exact upto_of (Nat.lt_of_lt_of_le (hr.dom x y hx) (X.nxm 0 t (Nat.zero_le _) ht)) hx
  · intro b b' r r' hne h1 h2 t t' ht ht' _ _ hok hok' h3 h4
    rw [st b r t h1 ht hok] at h3
    rw [st b' r' t' h2 ht' hok'] at h4
    exact hr.inj b b' r r' hne h1 h2 h3 h4
  · intro b r hb t ht _ hok hw
    rw [st b r t hb ht hok] at hw
    exact hs.wr _ ⟨b, r, hb, hw, rfl⟩
  · intro t u hu
    obtain ⟨u', h1, h2⟩ := hf.tmps t u hu
    rw [← hf.size]
    exact (Array.getElem?_eq_some_iff.1 h1).1
  · intro t _ u hu
    obtain ⟨u', h1, h2⟩ := hf.tmps t u hu
    exact ⟨u', h1, h2.mono fun x y hx => upto_of (hr.dom x y hx) hx⟩

theorem ahead_lt (hlt : ∀ (j : Nat) (o : Oper), l[j]? = some o → ∀ i ∈ onsOf o, i < j) {j i : Nat} (h : Ahead l j i) : i < j := by
  refine h (fun m => m < j) ?_ ?_
  · intro m q hm hq x hx
    have := hlt m q hq x hx
    omega
  · intro o ho m hm
    exact hlt j o ho m hm

/-- One operation more. -/
theorem ModeX.step (horc : OrcOk P orc) (X : XText P orc l fp kl V S T F) {E : Ent} {D : Nat → Prop} {a : Act} {w : World} {ρ : Ren} (M : ModeX X E D a w ρ) {j : Nat} {o : Oper} (hj : l[j]? = some o) (hD : ¬ D j)
    (hons : ∀ i ∈ onsOf o, D i) (hclosed : ∀ i q, D i → l[i]? = some q → ∀ m ∈ onsOf q, D m)
    {Q : Exit → Act → World → Prop} (next : Act → World → Prop) (hn : ∀ a' w' ρ', ModeX X E (fun i => D i ∨ i = j) a' w' ρ' → next a' w') :
    if Region.wanted o (yielded ⟨l⟩ a.tmps) then o.wp P a w next Q else next (a.put o.dst undef) w := by
  have hjl : j < l.length := (List.getElem?_eq_some_iff.1 hj).1
  have hstep := X.step j o hj
  have hnx := X.nx j hjl
  have nx0j := X.nxm 0 j (Nat.zero_le _) (by omega)
  have hons' : ∀ o', l[j]? = some o' → ∀ m ∈ onsOf o', D m := fun o' ho' => by rw [hj] at ho'; cases ho'; exact hons
  -- who is not ordered with it
  have un : ∀ m, m < l.length → ((D m ∧ j < m) ∨ (¬ D m ∧ m < j)) → ∀ b ∈ fp m, b ∈ kl j := by
    intro m hm hc b hb
    refine X.spec.kills j m hjl hm (by omega) ?_ ?_ b hb
    · intro ha
      rcases hc with ⟨_, h2⟩ | ⟨h1, _⟩
      · have := ahead_lt X.spec.lt ha; omega
      · exact h1 (ha D hclosed hons')
    · intro ha
      rcases hc with ⟨h1, _⟩ | ⟨_, h2⟩
      · exact hD (ha D hclosed (fun o' ho' => hclosed m o' h1 ho'))
      · have := ahead_lt X.spec.lt ha; omega
  have okj : ∀ b, b ∉ kl j → OkT l fp D b j := by
    intro b hb m hm hbm
    by_cases e : m = j
    · subst e; exact ⟨fun h => absurd h hD, fun h => absurd h (Nat.lt_irrefl _)⟩
    · constructor
      · intro hDm
        rcases Nat.lt_or_gt_of_ne e with h | h
        · exact h
        · exact absurd (un m hm (.inl ⟨hDm, h⟩) b hbm) hb
      · intro h
        exact Classical.byContradiction fun hDm => hb (un m hm (.inr ⟨hDm, h⟩) b hbm)
  -- nothing of this operation's own is there
  have fresh : ∀ b r, ρ b = some r → (S j).nx ≤ b → b < (S (j + 1)).nx → False := by
    intro b r hb h1 h2
    rcases M.dom b r hb with h | ⟨i, hi, hik, h3, h4⟩
    · omega
    · have hij : i ≠ j := fun e => hD (e ▸ hi)
      rcases Nat.lt_or_gt_of_ne hij with hlt | hgt
      · have := X.nxm (i + 1) j (by omega) (by omega); omega
      · have := X.nxm (j + 1) i (by omega) (by omega); omega
  have hr : HR (upto ρ (S j).nx) (view (fp j) (kl j) (S j)) w := by
    refine ⟨fun b r hb => (upto_some hb).1, fun b r hb => M.lt b r (upto_some hb).2, ?_, ?_⟩
    · intro b r hb
      obtain ⟨h1, h2⟩ := upto_some hb
      rw [view_get]
      split
      · trivial
      · rename_i hk
        have := M.obj b r h2 j (by omega) h1 (okj b hk)
        split
        · exact this
        · exact this.toRo
    · intro b b' r r' hne hb hb' h1 h2
      obtain ⟨g1, g2⟩ := upto_some hb
      obtain ⟨g3, g4⟩ := upto_some hb'
      rw [view_get] at h1 h2
      split at h1
      · cases h1
      · rename_i hk
        split at h2
        · cases h2
        · rename_i hk'
          split at h1
          · refine M.inj b b' r r' hne g2 g4 j j (by omega) (by omega) g1 g3 (okj b hk) (okj b' hk') h1 ?_
            split at h2
            · exact h2
            · exact AObj.toRo_live h2
          · rw [AObj.toRo_wr] at h1; cases h1
  have ht : ∀ t ∈ readsT l o, ∀ u, lookF (F j).l t = some u → ∃ u', a.tmps[t]? = some u' ∧ VR (upto ρ (S j).nx) u u' := by
    intro t htm u hu
    rcases X.look t j (by omega) with ⟨m, q, hm, hq, hdq, htn, hlook⟩ | ⟨hno, hlook⟩
    · rw [hlook] at hu; cases hu
      have hDm : D m := (X.spec.read m j q o t hq hj (by omega) hdq htm).1 hm D hclosed hons'
      obtain ⟨u', h1, h2⟩ := M.slot m q t hDm (by omega) hq hdq htn
      exact ⟨u', h1, h2.mono (upto_mono (Sub.refl _) (X.nxm (m + 1) j (by omega) (by omega)))⟩
    · rw [hlook] at hu
      by_cases hex : ∃ i q, D i ∧ i < l.length ∧ l[i]? = some q ∧ q.dst = some t
      · obtain ⟨i, q, hDi, hik, hq, hdq⟩ := hex
        have hij : i ≠ j := fun e => hD (e ▸ hDi)
        rcases Nat.lt_or_gt_of_ne hij with hlt | hgt
        · exact absurd (M.inb t u hu) (hno i q hlt hq hdq)
        · exact absurd ((X.spec.read i j q o t hq hj hij hdq htm).2 hgt D hclosed (fun o' ho' => hclosed i o' hDi ho')) hD
      · obtain ⟨u', h1, h2⟩ := M.init t (fun i q hDi hik hq hdq => hex ⟨i, q, hDi, hik, hq, hdq⟩) u hu
        exact ⟨u', h1, h2.mono (upto_mono (Sub.refl _) nx0j)⟩
  have wrOld0 : ∀ c, Wr (upto ρ (S j).nx) (view (fp j) (kl j) (S j)) c → ∃ x r, ρ x = some r ∧ x ∈ fp j ∧ x ∉ kl j ∧ x < (S j).nx ∧ ((S j).get x).wr = true ∧ r.blk = c := by
    rintro c ⟨b, r, h1, h2, h3⟩
    obtain ⟨g1, g2⟩ := upto_some h1
    rw [view_get] at h2
    split at h2
    · cases h2
    · rename_i hk
      split at h2
      · rename_i hf
        exact ⟨b, r, g2, hf, hk, g1, h2, h3⟩
      · rw [AObj.toRo_wr] at h2; cases h2
  have hgw : GOK (Wr (upto ρ (S j).nx) (view (fp j) (kl j) (S j))) w := by
    refine E.gok.of M.hsize M.frame ?_
    intro c hc
    obtain ⟨x, r, g1, _, g3, g4, g5, rfl⟩ := wrOld0 c hc
    exact M.wrs x r g1 j (by omega) g4 (okj x g3) g5
  refine step_sound horc hstep.1 hr hgw ht next ?_
  intro v' ρ' w' hv hst
  have keep : ∀ b, b < (S j).nx → ρ' b = ρ b := fun b hb => by
    rw [hst.since.keep b hb]; simp [upto, hb]
  have hTn : ∀ b r, ρ' b = some r → b < (S (j + 1)).nx := fun b r hb => by rw [hnx.2]; exact hst.hr.dom b r hb
  -- the names behind it
  let ρ2 : Ren := fun b => if b < (S (j + 1)).nx then ρ' b else ρ b
  have r2lo : ∀ b, b < (S (j + 1)).nx → ρ2 b = ρ' b := fun b hb => by simp [ρ2, hb]
  have r2hi : ∀ b, ¬ b < (S (j + 1)).nx → ρ2 b = ρ b := fun b hb => by simp [ρ2, hb]
  have sub : Sub ρ ρ2 := fun b r hb => by
    by_cases h1 : b < (S j).nx
    · rw [r2lo b (by omega), keep b h1]; exact hb
    · by_cases h2 : b < (S (j + 1)).nx
      · exact (fresh b r hb (by omega) h2).elim
      · rw [r2hi b h2]; exact hb
  have sub' : Sub ρ' ρ2 := fun b r hb => by rw [r2lo b (hTn b r hb)]; exact hb
  have wrOld : ∀ c, Wr (upto ρ (S j).nx) (view (fp j) (kl j) (S j)) c → ∃ x r, ρ x = some r ∧ x ∈ fp j ∧ x ∉ kl j ∧ x < (S j).nx ∧ ((S j).get x).wr = true ∧ r.blk = c := by
    rintro c ⟨b, r, h1, h2, h3⟩
    obtain ⟨g1, g2⟩ := upto_some h1
    rw [view_get] at h2
    split at h2
    · cases h2
    · rename_i hk
      split at h2
      · rename_i hf
        exact ⟨b, r, g2, hf, hk, g1, h2, h3⟩
      · rw [AObj.toRo_wr] at h2; cases h2
  have hsize := hst.since.size
  have untouched : ∀ b r t, ρ b = some r → b ∉ fp j → t ≤ l.length → b < (S t).nx → OkT l fp D b t → ((S t).get b).live = true → w'.heap[r.blk]? = w.heap[r.blk]? := by
    intro b r t hb hnf ht hlt hok hl
    refine hst.since.frame r.blk (M.lt b r hb) ?_
    intro hw
    obtain ⟨x, rx, g1, g2, g3, g4, g5, g6⟩ := wrOld _ hw
    exact M.inj x b rx r (fun e => hnf (e ▸ g2)) g1 hb j t (by omega) ht g4 hlt (okj x g3) hok g5 hl g6
  -- times
  have okNot : ∀ b t, b ∉ fp j → OkT l fp (fun i => D i ∨ i = j) b t → OkT l fp D b t := by
    intro b t hb hok m hm hbm
    have := hok m hm hbm
    have e : m ≠ j := fun e => hb (e ▸ hbm)
    simpa [e] using this
  let Own (b : Nat) : Prop := b ∈ fp j ∨ ((S j).nx ≤ b ∧ b < (S (j + 1)).nx)
  have ownLt : ∀ b, Own b → b < (S (j + 1)).nx := fun b hb => by
    rcases hb with h | h
    · have := X.fplt j hjl b h; omega
    · exact h.2
  have ownGet : ∀ b t, Own b → t ≤ l.length → b < (S t).nx → OkT l fp (fun i => D i ∨ i = j) b t → j + 1 ≤ t ∧ (S t).get b = (T j).get b := by
    intro b t hb ht hlt hok
    have hjt : j + 1 ≤ t := by
      rcases hb with h | ⟨h, _⟩
      · exact (hok j hjl h).1 (.inr rfl)
      · rcases Nat.lt_or_ge j t with q | q
        · exact q
        · have := X.nxm t j q (by omega); omega
    refine ⟨hjt, ?_⟩
    have hno : ∀ m, j + 1 ≤ m → m < t → b ∉ fp m := by
      intro m h1 h2 h3
      have hDm : D m := by
        rcases (hok m (by omega) h3).2 h2 with h | h
        · exact h
        · omega
      have hk := un m (by omega) (.inl ⟨hDm, by omega⟩) b h3
      rcases hb with h | ⟨h4, h5⟩
      · exact X.disj j hjl b h hk
      · have := X.kz j hjl b hk; omega
    rw [X.same b (j + 1) t hjt ht (ownLt b hb) hno, X.get j hjl b (ownLt b hb)]
    rw [if_neg]
    rintro ⟨h1, h2⟩
    rcases hb with h | ⟨h, _⟩
    · exact h2 h
    · omega
  have notOwn : ∀ b r, ρ2 b = some r → ¬ Own b → ρ b = some r ∧ b ∉ fp j := by
    intro b r hb hno
    refine ⟨?_, fun h => hno (.inl h)⟩
    by_cases h1 : b < (S (j + 1)).nx
    · rw [r2lo b h1] at hb
      have : b < (S j).nx := by
        rcases Nat.lt_or_ge b (S j).nx with q | q
        · exact q
        · exact absurd (.inr ⟨q, h1⟩) hno
      rw [keep b this] at hb
      exact hb
    · rw [r2hi b h1] at hb; exact hb
  have wrBack : ∀ b r, ρ' b = some r → ((T j).get b).wr = true → (∃ x rx, ρ x = some rx ∧ x ∈ fp j ∧ x ∉ kl j ∧ x < (S j).nx ∧ ((S j).get x).wr = true ∧ rx.blk = r.blk) ∨ w.heap.size ≤ r.blk := by
    intro b r hb hw
    rcases hst.since.wr r.blk ⟨b, r, hb, hw, rfl⟩ with h | h
    · exact .inl (wrOld _ h)
    · exact .inr h
  refine hn (a.put o.dst v') w' ρ2 ⟨?_, ?_, ?_, ?_, M.n0, ?_, hst.since.os.trans M.os, hst.since.tape.trans M.tape, hst.since.output.trans M.output, Nat.le_trans M.hsize hsize, ?_, ?_, ?_, ?_, ?_, M.inb, ?_⟩
  · -- dom
    intro b r hb
    by_cases h1 : b < (S (j + 1)).nx
    · rw [r2lo b h1] at hb
      by_cases h2 : b < (S j).nx
      · rw [keep b h2] at hb
        rcases M.dom b r hb with h | ⟨i, h3, h4⟩
        · exact .inl h
        · exact .inr ⟨i, .inl h3, h4⟩
      · exact .inr ⟨j, .inr rfl, hjl, by omega, h1⟩
    · rw [r2hi b h1] at hb
      rcases M.dom b r hb with h | ⟨i, h3, h4⟩
      · exact .inl h
      · exact .inr ⟨i, .inl h3, h4⟩
  · -- lt
    intro b r hb
    by_cases h1 : b < (S (j + 1)).nx
    · rw [r2lo b h1] at hb; exact hst.hr.lt b r hb
    · rw [r2hi b h1] at hb; have := M.lt b r hb; omega
  · -- obj
    intro b r hb t ht hlt hok
    by_cases ho : Own b
    · obtain ⟨hjt, he⟩ := ownGet b t ho ht hlt hok
      rw [r2lo b (ownLt b ho)] at hb
      rw [he]
      refine (hst.hr.obj b r hb).mono fun x y hx => ?_
      exact upto_of (Nat.lt_of_lt_of_le (hTn x y hx) (X.nxm (j + 1) t hjt ht)) (sub' x y hx)
    · obtain ⟨hb', hnf⟩ := notOwn b r hb ho
      have hok' := okNot b t hnf hok
      have hold := M.obj b r hb' t ht hlt hok'
      by_cases hl : ((S t).get b).live = true
      · exact (OR.of_heap (untouched b r t hb' hnf ht hlt hok' hl) hold).mono (upto_mono sub (Nat.le_refl _))
      · have : (S t).get b = .dead := by cases hq : (S t).get b <;> simp_all [AObj.live]
        rw [this]; trivial
  · -- inj
    intro b b' r r' hne hb hb' t t' ht ht' hlt hlt' hok hok' hw hl
    by_cases ho : Own b <;> by_cases ho' : Own b'
    · obtain ⟨_, he⟩ := ownGet b t ho ht hlt hok
      obtain ⟨_, he'⟩ := ownGet b' t' ho' ht' hlt' hok'
      rw [r2lo b (ownLt b ho)] at hb
      rw [r2lo b' (ownLt b' ho')] at hb'
      rw [he] at hw
      rw [he'] at hl
      exact hst.hr.inj b b' r r' hne hb hb' hw hl
    · obtain ⟨_, he⟩ := ownGet b t ho ht hlt hok
      rw [r2lo b (ownLt b ho)] at hb
      rw [he] at hw
      obtain ⟨hb2, hnf⟩ := notOwn b' r' hb' ho'
      have hok2 := okNot b' t' hnf hok'
      rcases wrBack b r hb hw with ⟨x, rx, g1, g2, g3, g4, g5, g6⟩ | h
      · rw [← g6]
        exact M.inj x b' rx r' (fun e => hnf (e ▸ g2)) g1 hb2 j t' (by omega) ht' g4 hlt' (okj x g3) hok2 g5 hl
      · have := M.lt b' r' hb2; omega
    · obtain ⟨_, he'⟩ := ownGet b' t' ho' ht' hlt' hok'
      rw [he'] at hl
      obtain ⟨hb2, hnf⟩ := notOwn b r hb ho
      have hok2 := okNot b t hnf hok
      rw [r2lo b' (ownLt b' ho')] at hb'
      rcases ho' with hf | ⟨h1, h2⟩
      · have hlt2 := X.fplt j hjl b' hf
        rw [keep b' hlt2] at hb'
        exact M.inj b b' r r' hne hb2 hb' t j ht (by omega) hlt hlt2 hok2 (okj b' (X.disj j hjl b' hf)) hw (X.rev j hjl b' hf hl)
      · have hw' := X.new j hjl b' h1 h2 hl
        rcases wrBack b' r' hb' hw' with ⟨x, rx, g1, g2, g3, g4, g5, g6⟩ | h
        · rw [← g6]
          exact (M.inj x b rx r (fun e => hnf (e ▸ g2)) g1 hb2 j t (by omega) ht g4 hlt (okj x g3) hok2 g5 (AObj.wr_live hw)).symm
        · have := M.lt b r hb2; omega
    · obtain ⟨hb2, hnf⟩ := notOwn b r hb ho
      obtain ⟨hb3, hnf'⟩ := notOwn b' r' hb' ho'
      exact M.inj b b' r r' hne hb2 hb3 t t' ht ht' hlt hlt' (okNot b t hnf hok) (okNot b' t' hnf' hok') hw hl
  · -- keep
    intro b hb
    have := M.n0
    rw [r2lo b (by omega), keep b (by omega)]
    exact M.keep b hb
  · -- frame
    intro c hc hnw
    have := M.hsize
    rw [hst.since.frame c (by omega) (fun hw => ?_)]
    · exact M.frame c hc hnw
    · obtain ⟨x, rx, g1, g2, g3, g4, g5, g6⟩ := wrOld _ hw
      rcases M.wrs x rx g1 j (by omega) g4 (okj x g3) g5 with h | h
      · exact hnw (g6 ▸ h)
      · omega
  · -- wrs
    intro b r hb t ht hlt hok hw
    by_cases ho : Own b
    · obtain ⟨_, he⟩ := ownGet b t ho ht hlt hok
      rw [r2lo b (ownLt b ho)] at hb
      rw [he] at hw
      rcases wrBack b r hb hw with ⟨x, rx, g1, g2, g3, g4, g5, g6⟩ | h
      · rw [← g6]; exact M.wrs x rx g1 j (by omega) g4 (okj x g3) g5
      · exact .inr (Nat.le_trans M.hsize h)
    · obtain ⟨hb2, hnf⟩ := notOwn b r hb ho
      exact M.wrs b r hb2 t ht hlt (okNot b t hnf hok) hw
  · unfold Act.put
    cases o.dst <;> simp [M.size]
  · unfold Act.put
    cases o.dst <;> simp [M.defers]
  · -- slots
    intro i q d hDi hik hq hdq hdn
    by_cases hij : i = j
    · subst hij
      rw [hj] at hq; cases hq
      refine ⟨v', ?_, hv.mono fun x y hx => upto_of (hTn x y hx) (sub' x y hx)⟩
      simp only [Act.put, hdq]
      simp [Array.getElem?_setIfInBounds, M.size, hdn]
    · have hDi' : D i := by rcases hDi with h | h; exact h; exact absurd h hij
      obtain ⟨u', h1, h2⟩ := M.slot i q d hDi' hik hq hdq hdn
      refine ⟨u', ?_, h2.mono (upto_mono sub (Nat.le_refl _))⟩
      have hne := X.spec.dst i j q o d hq hj hij hdq
      simp only [Act.put]
      cases hod : o.dst with
      | none => exact h1
      | some d' =>
        simp only
        rw [Array.getElem?_setIfInBounds_ne (fun e => hne (by rw [hod, e]))]
        exact h1
  · -- what was there
    intro t hno u hu
    obtain ⟨u', h1, h2⟩ := M.init t (fun i q hDi hik hq => hno i q (.inl hDi) hik hq) u hu
    refine ⟨u', ?_, h2.mono (upto_mono sub (Nat.le_refl _))⟩
    have hne := hno j o (.inr rfl) hjl hj
    simp only [Act.put]
    cases hod : o.dst with
    | none => exact h1
    | some d' =>
      simp only
      rw [Array.getElem?_setIfInBounds_ne (fun e => hne (by rw [hod, e]))]
      exact h1

/-- All are done. -/
theorem ModeX.done (X : XText P orc l fp kl V S T F) {E : Ent} {D : Nat → Prop} {a : Act} {w : World} {ρ : Ren} (M : ModeX X E D a w ρ) (hall : ∀ i, i < l.length → D i) : St E (F l.length) (S l.length) a w := by
  have hn := X.n l.length (Nat.le_refl _)
  have hdom : ∀ b r, ρ b = some r → b < (S l.length).nx := by
    intro b r hb
    rcases M.dom b r hb with h | ⟨i, _, hik, h1, h2⟩
    · exact Nat.lt_of_lt_of_le h (X.nxm 0 _ (Nat.zero_le _) (Nat.le_refl _))
    · exact Nat.lt_of_lt_of_le h2 (X.nxm (i + 1) _ (by omega) (Nat.le_refl _))
  have hok : ∀ b, OkT l fp D b l.length := fun b m hm _ => ⟨fun _ => hm, fun _ => hall m hm⟩
  refine ⟨ρ, ⟨hdom, M.lt, ?_, ?_⟩, ⟨M.keep, ?_, M.os, M.tape, M.output, M.hsize, M.frame, ?_⟩, ⟨by rw [hn]; exact M.size, ?_, M.defers⟩⟩
  · intro b r hb
    exact (M.obj b r hb l.length (Nat.le_refl _) (hdom b r hb) (hok b)).mono fun x y hx => (upto_some hx).2
  · intro b b' r r' hne h1 h2 h3 h4
    exact M.inj b b' r r' hne h1 h2 _ _ (Nat.le_refl _) (Nat.le_refl _) (hdom b r h1) (hdom b' r' h2) (hok b) (hok b') h3 h4
  · exact Nat.le_trans M.n0 (X.nxm 0 _ (Nat.zero_le _) (Nat.le_refl _))
  · rintro c ⟨b, r, h1, h2, rfl⟩
    exact M.wrs b r h1 _ (Nat.le_refl _) (hdom b r h1) (hok b) h2
  · intro t u hu
    rcases X.look t l.length (Nat.le_refl _) with ⟨m, q, hm, hq, hdq, htn, hlook⟩ | ⟨hno, hlook⟩
    · rw [hlook] at hu; cases hu
      obtain ⟨u', h1, h2⟩ := M.slot m q t (hall m hm) hm hq hdq htn
      exact ⟨u', h1, h2.mono fun x y hx => (upto_some hx).2⟩
    · rw [hlook] at hu
      have htn := M.inb t u hu
      obtain ⟨u', h1, h2⟩ := M.init t (fun i q _ hik hq hdq => hno i q hik hq hdq htn) u hu
      exact ⟨u', h1, h2.mono fun x y hx => (upto_some hx).2⟩

/-- A region that draws its order goes as the text's run says, each operation seen with what the others that are not ordered with it may write struck out. -/
theorem drawX_sound (horc : OrcOk P orc) (hmix : P.follows .mixedOrders = true) (X : XText P orc l fp kl V S T F) {id : Nat} {E : Ent} {a : Act} {w : World} (hst : St E (F 0) (S 0) a w) :
    (Code.region id ⟨l⟩ true).wp P (fun e a' w' => e = .normal ∧ St E (F l.length) (S l.length) a' w') a w := by
  generalize hops : (⟨l⟩ : Array Oper) = ops
  have hsize : ops.size = l.length := by rw [← hops]; rfl
  have hget : ∀ i, ops[i]? = l[i]? := fun i => by rw [← hops]; exact List.getElem?_toArray
  refine wp_region_any hmix ?_
  have hst1 : St E (F 0) (S 0) a { w with drawn := w.drawn + 1 } := by
    obtain ⟨ρ, h1, h2, h3⟩ := hst
    exact ⟨ρ, h1.of_heap rfl, h2.of_heap rfl rfl rfl rfl, h3⟩
  let Q : Exit → Act → World → Prop := fun e a' w' => e = .normal ∧ St E (F l.length) (S l.length) a' w'
  have key : ∀ (fuel : Nat) (L : Array Bool) (a : Act) (w : World) (ρ : Ren), L.size = l.length → l.length ≤ fuel + (List.range l.length).countP (fun i => L.getD i false) →
      (∀ i q, L.getD i false = true → l[i]? = some q → ∀ m ∈ onsOf q, L.getD m false = true) →
      ModeX X E (fun i => L.getD i false = true) a w ρ → wpAny P .any ops Q fuel L a w := by
    intro fuel
    induction fuel with
    | zero =>
      intro L a w ρ hL hcard hcl M
      have hall : ∀ i, i < l.length → L.getD i false = true := by
        intro i hi
        have hle := List.countP_le_length (p := fun i => L.getD i false) (l := List.range l.length)
        have heq : (List.range l.length).countP (fun i => L.getD i false) = (List.range l.length).length := by rw [List.length_range] at hle ⊢; omega
        rw [List.countP_eq_length] at heq
        exact heq i (by simpa using hi)
      refine ⟨?_, rfl, M.done X hall⟩
      unfold Region.ready
      rw [List.filter_eq_nil_iff]
      intro i hi
      have hi' : i < l.length := by rw [← hsize]; simpa using hi
      have := hall i hi'
      have hlt : i < L.size := by omega
      simp only [Array.getD_eq_getD_getElem?, Array.getElem?_eq_getElem hlt, Option.getD_some] at this ⊢
      simp [this]
    | succ fuel ih =>
      intro L a w ρ hL hcard hcl M
      constructor
      · intro hnil
        have hall : ∀ i, i < l.length → L.getD i false = true := by
          intro i
          induction i using Nat.strongRecOn with
          | _ i ihi =>
            intro hi
            obtain ⟨o, ho⟩ := Text.at (l := l) (i := i) hi
            apply Classical.byContradiction
            intro hno
            have hmem : i ∈ Region.ready .any ops L := by
              unfold Region.ready
              rw [List.mem_filter]
              refine ⟨by rw [hsize]; simpa using hi, ?_⟩
              have hlt : i < L.size := by omega
              have ho' : ops[i]? = some o := by rw [hget]; exact ho
              simp only [Bool.and_eq_true, ho', Option.map_some, Option.getD_some]
              constructor
              · simp only [Array.getD_eq_getD_getElem?, Array.getElem?_eq_getElem hlt, Option.getD_some] at hno ⊢
                simpa using hno
              · rw [Array.all_eq_true']
                intro e he
                by_cases hb : Region.binds .any e = true
                · have hon : e.on ∈ onsOf o := by
                    simp only [onsOf, List.mem_map, List.mem_filter]
                    exact ⟨e, ⟨by simpa using he, hb⟩, rfl⟩
                  have hlt2 := X.spec.lt i o ho _ hon
                  simp [ihi e.on hlt2 (by omega)]
                · simp [hb]
            rw [hnil] at hmem
            cases hmem
        exact ⟨rfl, M.done X hall⟩
      · intro i hi
        unfold Region.ready at hi
        rw [List.mem_filter] at hi
        obtain ⟨hin, hrd⟩ := hi
        have hil : i < l.length := by rw [← hsize]; simpa using hin
        obtain ⟨o, ho⟩ := Text.at (l := l) (i := i) hil
        have ho' : ops[i]? = some o := by rw [hget]; exact ho
        have hlt : i < L.size := by omega
        simp only [Bool.and_eq_true, ho', Option.map_some, Option.getD_some] at hrd
        obtain ⟨hnl, haft⟩ := hrd
        have hnot : ¬ L.getD i false = true := by
          simp only [Array.getD_eq_getD_getElem?, Array.getElem?_eq_getElem hlt, Option.getD_some] at hnl ⊢
          simpa using hnl
        have hons : ∀ m ∈ onsOf o, L.getD m false = true := by
          intro m hm
          simp only [onsOf, List.mem_map, List.mem_filter] at hm
          obtain ⟨e, ⟨he, hb⟩, rfl⟩ := hm
          rw [Array.all_eq_true'] at haft
          have := haft e (by simpa using he)
          simpa [hb] using this
        have hset : ∀ m, (L.setIfInBounds i true).getD m false = true ↔ (L.getD m false = true ∨ m = i) := fun m => getD_set L i m hlt
        have hL' : (L.setIfInBounds i true).size = l.length := by simpa using hL
        have hcl' : ∀ m q, (L.setIfInBounds i true).getD m false = true → l[m]? = some q → ∀ x ∈ onsOf q, (L.setIfInBounds i true).getD x false = true := by
          intro m q hm hq x hx
          rw [hset] at hm ⊢
          rcases hm with hm | rfl
          · exact .inl (hcl m q hm hq x hx)
          · rw [ho] at hq; cases hq
            exact .inl (hons x hx)
        have hcard' : l.length ≤ fuel + (List.range l.length).countP (fun m => (L.setIfInBounds i true).getD m false) := by
          have : (List.range l.length).countP (fun m => L.getD m false) + 1 ≤ (List.range l.length).countP (fun m => (L.setIfInBounds i true).getD m false) := by
            have e : List.range l.length = List.range i ++ i :: (List.range' (i + 1) (l.length - (i + 1))) := by
              rw [List.range_eq_range', List.range_eq_range']
              have h1 : List.range' 0 l.length = List.range' 0 i ++ List.range' i (l.length - i) := by
                have := List.range'_append (s := 0) (m := i) (n := l.length - i) (step := 1)
                simp only [Nat.one_mul, Nat.zero_add] at this
                rw [this]
                congr 1
                omega
              rw [h1, show l.length - i = (l.length - (i + 1)) + 1 by omega, List.range'_succ]
            rw [e, List.countP_append, List.countP_append, List.countP_cons_of_pos (p := fun m => (L.setIfInBounds i true).getD m false) (by rw [hset]; exact .inr rfl), List.countP_cons_of_neg (by simpa using hnot)]
            have m1 : (List.range i).countP (fun m => L.getD m false) ≤ (List.range i).countP (fun m => (L.setIfInBounds i true).getD m false) :=
              List.countP_mono_left (fun m _ hm => by rw [hset]; exact .inl hm)
            have m2 : (List.range' (i + 1) (l.length - (i + 1))).countP (fun m => L.getD m false) ≤ (List.range' (i + 1) (l.length - (i + 1))).countP (fun m => (L.setIfInBounds i true).getD m false) :=
              List.countP_mono_left (fun m _ hm => by rw [hset]; exact .inl hm)
            omega
          omega
        have conv : (if Region.wanted o (yielded ⟨l⟩ a.tmps) then o.wp P a w (wpAny P .any ops Q fuel (L.setIfInBounds i true)) Q else wpAny P .any ops Q fuel (L.setIfInBounds i true) (a.put o.dst undef) w) →
            wpOp P ops Q i (wpAny P .any ops Q fuel (L.setIfInBounds i true)) a w := by
          intro hq
          unfold wpOp
          simp only [ho']
          rw [hops] at hq
          split at hq
          · rename_i hw; rw [if_pos hw]; exact .inl hq
          · rename_i hw; rw [if_neg hw]; exact hq
        refine conv (M.step horc X ho hnot hons (fun x q hx hq => hcl x q hx hq) _ ?_)
        intro a' w' ρ' M'
        have hfun : (fun m => (L.setIfInBounds i true).getD m false = true) = (fun m => L.getD m false = true ∨ m = i) := funext fun m => propext (hset m)
        exact ih _ _ _ ρ' hL' hcard' hcl' (by rw [hfun]; exact M')
  obtain ⟨ρ, M⟩ := ModeX.start X hst1
  refine key ops.size (Array.replicate ops.size false) a _ ρ (by simp [hsize]) (by omega) ?_ ?_
  · intro i q hi
    simp [Array.getD_eq_getD_getElem?, Array.getElem?_replicate] at hi
    split at hi <;> simp at hi
  · have : (fun i => (Array.replicate ops.size false).getD i false = true) = fun _ => False := by
      funext i
      simp [Array.getD_eq_getD_getElem?, Array.getElem?_replicate]
      split <;> simp
    rw [this]
    exact M
end

-- ------------------------------------------------------------------ the check, the run
def unordered (ms : List Nat) (i j : Nat) : Bool := !(Nat.beq i j || (ms.getD j 0).testBit i || (ms.getD i 0).testBit j)
/-- The edges bear it: the part that hangs on the text alone. -/
def okSM (ms : List Nat) (l : List Oper) : Bool :=
  idx l fun j o => (onsOf o).all (· < j) && idx l fun i q => i == j || (match q.dst with
      | none => true
      | some d => o.dst != some d && (!(readsT l o).contains d || (if i < j then (ms.getD j 0).testBit i else (ms.getD i 0).testBit j)))
def okS (l : List Oper) : Bool := okSM (masks l []) l
/-- What the others that are not ordered with the operation j may write. -/
def killsAt (ms : List Nat) (j : Nat) : List (List Nat) → Nat → List Nat
  | [], _ => []
  | f :: r, i => match f with
    | [] => killsAt ms j r (i + 1)
    | _ => if unordered ms i j = true then f ++ killsAt ms j r (i + 1) else killsAt ms j r (i + 1)
theorem killsAt_mem {ms : List Nat} {j b : Nat} : ∀ {fps : List (List Nat)} {k i : Nat}, b ∈ fps.getD i [] → unordered ms (k + i) j = true → b ∈ killsAt ms j fps k
  | [], k, i, h, _ => by simp at h
  | f :: r, k, i, h, hu => by
    unfold killsAt
    cases i with
    | zero =>
      simp only [List.getD_cons_zero] at h
      cases f with
      | nil => cases h
      | cons x y =>
        simp only
        rw [if_pos (by simpa using hu)]
        exact List.mem_append_left _ h
    | succ i =>
      simp only [List.getD_cons_succ] at h
      have ih := killsAt_mem (ms := ms) (j := j) (k := k + 1) (i := i) h (by rw [← hu]; congr 1; omega)
      split
      · exact ih
      · split
        · exact List.mem_append_right _ ih
        · exact ih
theorem okS_spec {l : List Oper} (h : okS l = true) (fps : List (List Nat)) : XSpec l (fun i => fps.getD i []) (fun j => killsAt (masks l []) j fps 0) := by
  have rch : ∀ j i, ((masks l []).getD j 0).testBit i = true → Ahead l j i := masks_reach l [] (by simp) (by intro j i hb; simp at hb)
  unfold okS okSM at h
  have g := fun (j : Nat) (o : Oper) (hj : l[j]? = some o) => idx_spec h hj
  refine ⟨?_, ?_, ?_, ?_⟩
  · intro j o hj i hi
    have := g j o hj
    simp only [Bool.and_eq_true, List.all_eq_true, decide_eq_true_eq] at this
    exact this.1 i hi
  · intro i j p o d hi hj hne hp
    have := g j o hj
    simp only [Bool.and_eq_true] at this
    have := idx_spec this.2 hi
    have hij : (i == j) = false := by simpa using hne
    simp only [hij, hp, Bool.false_or, Bool.and_eq_true, bne_iff_ne] at this
    exact this.1
  · intro i j p o d hi hj hne hp hd
    have := g j o hj
    simp only [Bool.and_eq_true] at this
    have := idx_spec this.2 hi
    have hij : (i == j) = false := by simpa using hne
    have hc : (readsT l o).contains d = true := by simpa using hd
    simp only [hij, hp, Bool.false_or, Bool.and_eq_true, hc, Bool.not_true, Bool.false_or] at this
    have := this.2
    constructor
    · intro hlt
      rw [if_pos hlt] at this
      exact rch _ _ this
    · intro hgt
      rw [if_neg (by omega)] at this
      exact rch _ _ this
  · intro i j hi hj hne h1 h2 b hb
    refine killsAt_mem (i := j) hb ?_
    simp only [Nat.zero_add, unordered, Bool.not_eq_true', Bool.or_eq_false_iff]
    refine ⟨⟨?_, ?_⟩, ?_⟩
    · cases hq : Nat.beq j i with
      | false => rfl
      | true => exact absurd (Nat.eq_of_beq_eq_true hq).symm hne
    · cases hq : ((masks l []).getD i 0).testBit j with
      | false => rfl
      | true => exact absurd (rch _ _ hq) h1
    · cases hq : ((masks l []).getD j 0).testBit i with
      | false => rfl
      | true => exact absurd (rch _ _ hq) h2

/-- The text's run, each operation seen so. -/
inductive XRun (P : Program) (orc : Orc) (all : List Oper) (fp kl : Nat → List Nat) : Nat → List Oper → AF → AH → AF → AH → Prop
  | nil {i fr σ} : XRun P orc all fp kl i [] fr σ fr σ
  | cons {i o r fr σ v τ σ1 fr' σ'} (h : stepF P orc all o fr (view (fp i) (kl i) σ) = some (v, τ)) (hc : chkX (fp i) (kl i) σ τ = true) (hm : Merged (fp i) σ τ σ1)
      (t : XRun P orc all fp kl (i + 1) r (fr.put o.dst v) σ1 fr' σ') : XRun P orc all fp kl i (o :: r) fr σ fr' σ'
theorem XRun.facts {orc : Orc} {all : List Oper} {fp kl : Nat → List Nat} {i : Nat} {r : List Oper} {fr fr' : AF} {σ σ' : AH} (h : XRun P orc all fp kl i r fr σ fr' σ') :
    ∃ (V : Nat → AV) (S T : Nat → AH) (F : Nat → AF), S 0 = σ ∧ F 0 = fr ∧ S r.length = σ' ∧ F r.length = fr' ∧
      ∀ k o, r[k]? = some o → stepF P orc all o (F k) (view (fp (i + k)) (kl (i + k)) (S k)) = some (V k, T k) ∧ F (k + 1) = (F k).put o.dst (V k) ∧ chkX (fp (i + k)) (kl (i + k)) (S k) (T k) = true ∧ Merged (fp (i + k)) (S k) (T k) (S (k + 1)) := by
  induction h with
  | nil => rename_i i fr σ; exact ⟨fun _ => unk, fun _ => σ, fun _ => σ, fun _ => fr, rfl, rfl, rfl, rfl, fun k o h => by simp at h⟩
  | cons h hc hm t ih =>
    rename_i i o r fr σ v τ σ1 fr' σ'
    obtain ⟨V, S, T, F, h1, h2, h3, h4, h5⟩ := ih
    refine ⟨fun k => if k = 0 then v else V (k - 1), fun k => if k = 0 then σ else S (k - 1), fun k => if k = 0 then τ else T (k - 1), fun k => if k = 0 then fr else F (k - 1), rfl, rfl, by simpa using h3, by simpa using h4, ?_⟩
    intro k q hq
    cases k with
    | zero =>
      simp only [List.getElem?_cons_zero, Option.some.injEq] at hq
      subst hq
      simp only [if_true, Nat.zero_add, Nat.one_ne_zero, if_false, Nat.sub_self, h1, h2, Nat.add_zero]
      exact ⟨h, trivial, hc, hm⟩
    | succ k =>
      simp only [List.getElem?_cons_succ] at hq
      have := h5 k q hq
      have e : i + (k + 1) = i + 1 + k := by omega
      rw [e]
      simpa using this
theorem XRun.sound {orc : Orc} (horc : OrcOk P orc) (hmix : P.follows .mixedOrders = true) {l : List Oper} {fps : List (List Nat)} {fr fr' : AF} {σ σ' : AH} (hok : okS l = true)
    (h : XRun P orc l (fun i => fps.getD i []) (fun j => killsAt (masks l []) j fps 0) 0 l fr σ fr' σ') {id : Nat} {E : Ent} {a : Act} {w : World} (hst : St E fr σ a w) :
    (Code.region id ⟨l⟩ true).wp P (fun e a' w' => e = .normal ∧ St E fr' σ' a' w') a w := by
  have spec := okS_spec hok fps
  revert h spec
  generalize (fun i => fps.getD i []) = fp
  generalize (fun j => killsAt (masks l []) j fps 0) = kl
  intro h spec
  obtain ⟨V, S, T, F, rfl, rfl, rfl, rfl, hf⟩ := h.facts
  simp only [Nat.zero_add] at hf
  have chk : ∀ i, i < l.length → Nat.ble (S i).nx (T i).nx = true ∧ (∀ b ∈ fp i, (Nat.blt b (S i).nx = true ∧ memN b (kl i) = false) ∧ (((S i).get b).live = true ∨ ((T i).get b).live = false)) ∧
      (∀ b ∈ kl i, Nat.blt b (S i).nx = true ∨ Nat.ble (T i).nx b = true) ∧ newOk (T i) ((T i).nx - (S i).nx) (S i).nx = true := by
    intro i hi
    obtain ⟨o, ho⟩ := Text.at (l := l) (i := i) hi
    have := (hf i o ho).2.2.1
    unfold chkX at this
    simpa only [Bool.and_eq_true, List.all_eq_true, Bool.not_eq_true', Bool.or_eq_true, and_assoc] using this
  have mg : ∀ i, i < l.length → Merged (fp i) (S i) (T i) (S (i + 1)) := by
    intro i hi
    obtain ⟨o, ho⟩ := Text.at (l := l) (i := i) hi
    exact (hf i o ho).2.2.2
  refine drawX_sound horc hmix (V := V) (S := S) (T := T) (F := F) ⟨spec, fun i o ho => ⟨(hf i o ho).1, (hf i o ho).2.1⟩, ?_, ?_, ?_, ?_, ?_, ?_, ?_⟩ hst
  · intro i hi
    have h1 := (chk i hi).1
    rw [Nat.ble_eq] at h1
    exact ⟨by rw [(mg i hi).1]; exact h1, (mg i hi).1⟩
  · intro i hi b hb
    rw [(mg i hi).1] at hb
    exact (mg i hi).2 b hb
  · intro i hi b hb
    rcases (chk i hi).2.2.1 b hb with h | h
    · exact .inl (blt_iff.1 h)
    · rw [Nat.ble_eq] at h
      exact .inr (by rw [(mg i hi).1]; exact h)
  · intro i hi b hb
    exact memN_not.1 ((chk i hi).2.1 b hb).1.2
  · intro i hi b hb
    exact blt_iff.1 ((chk i hi).2.1 b hb).1.1
  · intro i hi b hb hl
    rcases ((chk i hi).2.1 b hb).2 with h | h
    · exact h
    · rw [h] at hl; cases hl
  · intro i hi b h1 h2 hl
    rw [(mg i hi).1] at h2
    have h3 := (chk i hi).1
    rw [Nat.ble_eq] at h3
    exact newOk_spec (chk i hi).2.2.2 b h1 (by omega) hl
end Go.Proofs.Yteneafgmcmgahaa.V
