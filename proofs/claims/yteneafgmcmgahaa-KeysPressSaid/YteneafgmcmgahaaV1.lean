/- Own library, part 1: abstract values and an abstract heap, and how they stand to the model's values and world (a renaming of blocks). -/
import Derived.Orders
import Derived.WalkKit
import Derived.Laws.AppendOwn
import Derived.Below
import Derived.MapKept
namespace Go.Proofs.Yteneafgmcmgahaa.V
open Go

/-- Abstract values: blocks are numbers of the abstract heap. A slice with capacity 'none' lies in a row that grew: its capacity is not known. -/
inductive AV where
  | bool (b : Bool)
  | int (k : IntKind) (n : Int)
  | str (s : ByteArray)
  | ptr (b o : Nat)
  | nilptr
  | gp (g o : Nat)
  | slice (b o n : Nat) (c : Option Nat)
  | nilslice
  | map (b : Nat)
  | nilmap
  | func (fn : Fn) (first captured : List AV)
  | nilFunc
  | iface (t : Nat) (v : AV)
  | nilIface
  | agg (cs : List AV)
  | tup (vs : List AV)
  deriving Inhabited

/-- What an abstract block stands for: a block, a shift in it; of a row that grew the size of an element and the capacity. -/
structure R where
  blk : Nat
  sh : Nat
  sz : Nat
  cap : Nat

abbrev Ren := Nat → Option R

mutual
inductive VR (ρ : Ren) : AV → Value → Prop
  | bool (b) : VR ρ (.bool b) (.bool b)
  | int (k n) : VR ρ (.int k n) (.int k n)
  | str (s) : VR ρ (.str s) (.string s)
  | ptr {b o r} (h : ρ b = some r) : VR ρ (.ptr b o) (.pointer (some ⟨r.blk, r.sh + o, none⟩))
  | nilptr : VR ρ .nilptr (.pointer none)
  | gp (g o) : VR ρ (.gp g o) (.pointer (some ⟨g, o, none⟩))
  | slice {b o n c r} (h : ρ b = some r) : VR ρ (.slice b o n (some c)) (.slice (some ⟨r.blk, r.sh + o, none⟩) n c)
  | slicee {b o a k} : VR ρ (.slice b o 0 none) (.slice (some a) 0 k)
  | sliceo {b o n r i} (h : ρ b = some r) (hs : r.sh = 0) (ho : o = i * r.sz) (hn : 0 < n) (hc : i + n ≤ r.cap) : VR ρ (.slice b o n none) (.slice (some ⟨r.blk, o, none⟩) n (r.cap - i))
  | nilslice : VR ρ .nilslice (.slice none 0 0)
  | map {b r} (h : ρ b = some r) : VR ρ (.map b) (.map (some r.blk))
  | nilmap : VR ρ .nilmap (.map none)
  | func {fn f c f' c'} (h : VRs ρ f f') (h' : VRs ρ c c') : VR ρ (.func fn f c) (.func fn ⟨f'⟩ ⟨c'⟩)
  | nilFunc : VR ρ .nilFunc .nilFunc
  | iface {t v v'} (h : VR ρ v v') : VR ρ (.iface t v) (.iface t v')
  | nilIface : VR ρ .nilIface .nilIface
  | agg {cs cs'} (h : VRs ρ cs cs') : VR ρ (.agg cs) (.agg ⟨cs'⟩)
  | tup {vs vs'} (h : VRs ρ vs vs') : VR ρ (.tup vs) (.tuple ⟨vs'⟩)
inductive VRs (ρ : Ren) : List AV → List Value → Prop
  | nil : VRs ρ [] []
  | cons {v v' l l'} (h : VR ρ v v') (t : VRs ρ l l') : VRs ρ (v :: l) (v' :: l')
end

/-- ρ' knows what ρ knows. -/
def Sub (ρ ρ' : Ren) : Prop := ∀ b r, ρ b = some r → ρ' b = some r
theorem Sub.refl (ρ : Ren) : Sub ρ ρ := fun _ _ h => h
theorem Sub.trans {a b c : Ren} (h : Sub a b) (k : Sub b c) : Sub a c := fun _ _ x => k _ _ (h _ _ x)

mutual
theorem VR.mono {ρ ρ' : Ren} (s : Sub ρ ρ') : ∀ {v : AV} {v' : Value}, VR ρ v v' → VR ρ' v v'
  | _, _, .bool b => .bool b
  | _, _, .int k n => .int k n
  | _, _, .str x => .str x
  | _, _, .ptr h => .ptr (s _ _ h)
  | _, _, .nilptr => .nilptr
  | _, _, .gp a b => .gp a b
  | _, _, .slice h => .slice (s _ _ h)
  | _, _, .slicee => .slicee
  | _, _, .sliceo h a b c d => .sliceo (s _ _ h) a b c d
  | _, _, .nilslice => .nilslice
  | _, _, .map h => .map (s _ _ h)
  | _, _, .nilmap => .nilmap
  | _, _, .func h h' => .func (VRs.mono s h) (VRs.mono s h')
  | _, _, .nilFunc => .nilFunc
  | _, _, .iface h => .iface (VR.mono s h)
  | _, _, .nilIface => .nilIface
  | _, _, .agg h => .agg (VRs.mono s h)
  | _, _, .tup h => .tup (VRs.mono s h)
theorem VRs.mono {ρ ρ' : Ren} (s : Sub ρ ρ') : ∀ {l : List AV} {l' : List Value}, VRs ρ l l' → VRs ρ' l l'
  | _, _, .nil => .nil
  | _, _, .cons h t => .cons (VR.mono s h) (VRs.mono s t)
end

theorem VRs.length {ρ : Ren} : ∀ {l : List AV} {l' : List Value}, VRs ρ l l' → l.length = l'.length
  | _, _, .nil => rfl
  | _, _, .cons _ t => by simp [VRs.length t]

theorem VRs.get {ρ : Ren} : ∀ {l : List AV} {l' : List Value}, VRs ρ l l' → ∀ {i : Nat} {v : AV}, l[i]? = some v → ∃ v', l'[i]? = some v' ∧ VR ρ v v'
  | _, _, .nil, i, v, h => by simp at h
  | _, _, .cons h t, 0, v, hv => by
    simp only [List.getElem?_cons_zero, Option.some.injEq] at hv
    subst hv
    exact ⟨_, by simp, h⟩
  | _, _, .cons h t, i + 1, v, hv => by
    simp only [List.getElem?_cons_succ] at hv ⊢
    exact VRs.get t hv

theorem VRs.append {ρ : Ren} : ∀ {a : List AV} {a' : List Value} {b b'}, VRs ρ a a' → VRs ρ b b' → VRs ρ (a ++ b) (a' ++ b')
  | _, _, _, _, .nil, h => h
  | _, _, _, _, .cons x t, h => .cons x (VRs.append t h)

theorem VRs.take {ρ : Ren} : ∀ {a : List AV} {a' : List Value} (n : Nat), VRs ρ a a' → VRs ρ (a.take n) (a'.take n)
  | _, _, 0, _ => by simp; exact .nil
  | _, _, n + 1, .nil => by simp; exact .nil
  | _, _, n + 1, .cons x t => by simp only [List.take_succ_cons]; exact .cons x (VRs.take n t)

theorem VRs.drop {ρ : Ren} : ∀ {a : List AV} {a' : List Value} (n : Nat), VRs ρ a a' → VRs ρ (a.drop n) (a'.drop n)
  | _, _, 0, h => by simpa using h
  | _, _, n + 1, .nil => by simp; exact .nil
  | _, _, n + 1, .cons x t => by simp only [List.drop_succ_cons]; exact VRs.drop n t

theorem VRs.set {ρ : Ren} : ∀ {a : List AV} {a' : List Value} (i : Nat) {v v'}, VRs ρ a a' → VR ρ v v' → VRs ρ (a.set i v) (a'.set i v')
  | _, _, _, _, _, .nil, _ => by simp; exact .nil
  | _, _, 0, _, _, .cons x t, h => by simp only [List.set_cons_zero]; exact .cons h t
  | _, _, i + 1, _, _, .cons x t, h => by simp only [List.set_cons_succ]; exact .cons x (VRs.set i t h)

theorem VRs.replicate {ρ : Ren} (n : Nat) {v v'} (h : VR ρ v v') : VRs ρ (List.replicate n v) (List.replicate n v') := by
  induction n with
  | zero => exact .nil
  | succ n ih => exact .cons h ih

/-- A value of one cell. -/
def AV.one : AV → Bool
  | .agg _ | .tup _ => false
  | _ => true
theorem VR.one {ρ : Ren} {v : AV} {v' : Value} (h : VR ρ v v') (h1 : v.one = true) : v'.oneCell' = true := by
  cases h <;> first | rfl | cases h1
theorem VRs.one {ρ : Ren} : ∀ {l : List AV} {l' : List Value}, VRs ρ l l' → l.all AV.one = true → ∀ v' ∈ l', v'.oneCell' = true
  | _, _, .nil, _, _, h => by cases h
  | _, _, .cons x t, h1, v', hm => by
    simp only [List.all_cons, Bool.and_eq_true] at h1
    cases hm with
    | head => exact x.one h1.1
    | tail _ hm => exact VRs.one t h1.2 v' hm

/-- A value's cells. -/
def AV.cells : AV → List AV
  | .agg cs => cs
  | v => [v]
theorem VR.cells {ρ : Ren} {v : AV} {v' : Value} (h : VR ρ v v') : VRs ρ v.cells v'.cells.toList := by
  cases h <;> first | (exact .cons (by first | exact .bool _ | exact .int _ _ | exact .str _ | (constructor <;> assumption)) .nil) | assumption

/-- Abstract blocks: cells; a row that grew; cells that are only read; a map; what must not be touched any more. -/
inductive AObj where
  | cells (e : Nat) (cs : List AV)
  | opn (e z : Nat) (cs : List AV)
  | ro (cs : List AV)
  | mp (es : List (AV × AV))
  | dead
  deriving Inhabited

structure AH where
  nx : Nat
  m : List (Nat × AObj)

def lookH : List (Nat × AObj) → Nat → AObj
  | [], _ => .dead
  | (k, o) :: r, b => if k = b then o else lookH r b
def AH.get (σ : AH) (b : Nat) : AObj := lookH σ.m b
def setH : List (Nat × AObj) → Nat → AObj → List (Nat × AObj)
  | [], _, _ => []
  | (k, o) :: r, b, x => if k = b then (k, x) :: r else (k, o) :: setH r b x
def AH.set (σ : AH) (b : Nat) (o : AObj) : AH := ⟨σ.nx, setH σ.m b o⟩
def AH.push (σ : AH) (o : AObj) : AH := ⟨σ.nx + 1, (σ.nx, o) :: σ.m⟩

theorem lookH_setH (m : List (Nat × AObj)) (b : Nat) (o : AObj) (k : Nat) : lookH (setH m b o) k = if k = b then (if ∃ p ∈ m, p.1 = b then o else .dead) else lookH m k := by
  induction m with
  | nil => simp [setH, lookH]
  | cons p r ih =>
    obtain ⟨i, x⟩ := p
    by_cases h : i = b
    · subst h
      by_cases hk : k = i
      · subst hk; simp [setH, lookH]
      · simp [setH, lookH, hk, Ne.symm hk]
    · simp only [setH, h, if_false, lookH, ih]
      by_cases hk : k = b
      · subst hk
        have e : (∃ p ∈ (i, x) :: r, p.1 = k) ↔ ∃ p ∈ r, p.1 = k := by simp [h]
        simp only [h, if_false, if_true, e]
      · by_cases hik : i = k <;> simp [hik, hk]
theorem AH.get_set_ne (σ : AH) {b k : Nat} (o : AObj) (h : k ≠ b) : (σ.set b o).get k = σ.get k := by
  simp [AH.get, AH.set, lookH_setH, h]
theorem lookH_mem {m : List (Nat × AObj)} {b : Nat} (h : lookH m b ≠ .dead) : ∃ p ∈ m, p.1 = b := by
  induction m with
  | nil => simp [lookH] at h
  | cons p r ih =>
    obtain ⟨i, x⟩ := p
    by_cases hi : i = b
    · exact ⟨(i, x), by simp, hi⟩
    · simp only [lookH, hi, if_false] at h
      obtain ⟨q, hq, e⟩ := ih h
      exact ⟨q, by simp [hq], e⟩
theorem AH.get_set_same (σ : AH) {b : Nat} (o : AObj) (h : σ.get b ≠ .dead) : (σ.set b o).get b = o := by
  have := lookH_mem h
  simp only [AH.get, AH.set, lookH_setH, if_true, this]
theorem AH.get_push_ne (σ : AH) {k : Nat} (o : AObj) (h : k ≠ σ.nx) : (σ.push o).get k = σ.get k := by
  simp [AH.get, AH.push, lookH, Ne.symm h]
theorem AH.get_push_same (σ : AH) (o : AObj) : (σ.push o).get σ.nx = o := by simp [AH.get, AH.push, lookH]
theorem AH.nx_set (σ : AH) (b : Nat) (o : AObj) : (σ.set b o).nx = σ.nx := rfl
theorem AH.nx_push (σ : AH) (o : AObj) : (σ.push o).nx = σ.nx + 1 := rfl

/-- An abstract block and what it stands for. -/
def OR (ρ : Ren) (w : World) (r : R) : AObj → Prop
  | .cells e cs => r.sh = 0 ∧ ∃ l, w.heap[r.blk]? = some (.cells ⟨l⟩ e (0, 0)) ∧ VRs ρ cs l
  | .opn e z cs => r.sh = 0 ∧ r.sz = z ∧ 0 < z ∧ ∃ l more, w.heap[r.blk]? = some (.cells ⟨l ++ more⟩ e (0, 0)) ∧ VRs ρ cs l ∧ (l ++ more).length = r.cap * z
  | .ro cs => ∃ pre l more e fr, w.heap[r.blk]? = some (.cells ⟨pre ++ l ++ more⟩ e fr) ∧ pre.length = r.sh ∧ VRs ρ cs l
  | .mp es => ∃ ents clock, w.heap[r.blk]? = some (.map ents clock) ∧ VRs ρ (es.map (·.1)) (ents.toList.map (·.key)) ∧ VRs ρ (es.map (·.2)) (ents.toList.map (·.val)) ∧ MapKept.Stamped ents clock
  | .dead => True

theorem OR.mono {ρ ρ' : Ren} {w : World} {r : R} {o : AObj} (s : Sub ρ ρ') (h : OR ρ w r o) : OR ρ' w r o := by
  cases o with
  | cells e cs => obtain ⟨a, l, b, c⟩ := h; exact ⟨a, l, b, c.mono s⟩
  | opn e z cs => obtain ⟨a, a2, a3, l, m, b, c, d⟩ := h; exact ⟨a, a2, a3, l, m, b, c.mono s, d⟩
  | ro cs => obtain ⟨p, l, m, e, fr, b, c, d⟩ := h; exact ⟨p, l, m, e, fr, b, c, d.mono s⟩
  | mp es => obtain ⟨x, c, a, b, d, st⟩ := h; exact ⟨x, c, a, b.mono s, d.mono s, st⟩
  | dead => trivial
theorem OR.of_heap {ρ : Ren} {w w' : World} {r : R} {o : AObj} (e : w'.heap[r.blk]? = w.heap[r.blk]?) (h : OR ρ w r o) : OR ρ w' r o := by
  cases o <;> simp only [OR, e] at h ⊢ <;> exact h

def AObj.live : AObj → Bool
  | .dead => false
  | _ => true
def AObj.wr : AObj → Bool
  | .dead | .ro _ => false
  | _ => true
theorem AObj.wr_live {o : AObj} (h : o.wr = true) : o.live = true := by cases o <;> first | rfl | cases h

/-- The abstract heap and the world. -/
structure HR (ρ : Ren) (σ : AH) (w : World) : Prop where
  dom : ∀ b r, ρ b = some r → b < σ.nx
  lt : ∀ b r, ρ b = some r → r.blk < w.heap.size
  obj : ∀ b r, ρ b = some r → OR ρ w r (σ.get b)
  inj : ∀ b b' r r', b ≠ b' → ρ b = some r → ρ b' = some r' → (σ.get b).wr = true → (σ.get b').live = true → r.blk ≠ r'.blk

/-- The blocks that may be written. -/
def Wr (ρ : Ren) (σ : AH) (c : Nat) : Prop := ∃ b r, ρ b = some r ∧ (σ.get b).wr = true ∧ r.blk = c

/-- Cells of package-level variables that the code reads: what they hold (nothing writes them). -/
def GB : List (Addr × Value) := []
/-- The listed cells hold what the list says, and nothing that may be written lies there. -/
def GOK (W : Nat → Prop) (w : World) : Prop := ∀ p ∈ GB, ¬ W p.1.block ∧ p.1.block < w.heap.size ∧ w.cell? p.1 = some p.2
theorem GOK.of {W0 W : Nat → Prop} {w0 w : World} (h : GOK W0 w0) (hs : w0.heap.size ≤ w.heap.size) (hf : ∀ c, c < w0.heap.size → ¬ W0 c → w.heap[c]? = w0.heap[c]?) (hw : ∀ c, W c → W0 c ∨ w0.heap.size ≤ c) : GOK W w := by
  intro p hp
  obtain ⟨h1, h2, h3⟩ := h p hp
  refine ⟨fun k => ?_, by omega, ?_⟩
  · rcases hw _ k with q | q
    · exact h1 q
    · omega
  · rw [← h3]
    simp only [World.cell?, hf _ h2 h1]
/-- Since an entry (its first n0 blocks are kept by name): what has become of the world. -/
structure Since (n0 : Nat) (ρ0 : Ren) (W0 : Nat → Prop) (w0 : World) (ρ : Ren) (σ : AH) (w : World) : Prop where
  keep : ∀ b, b < n0 → ρ b = ρ0 b
  n0le : n0 ≤ σ.nx
  os : w.os = w0.os
  tape : w.tape = w0.tape
  output : w.output = w0.output
  size : w0.heap.size ≤ w.heap.size
  frame : ∀ c, c < w0.heap.size → ¬ W0 c → w.heap[c]? = w0.heap[c]?
  wr : ∀ c, Wr ρ σ c → W0 c ∨ w0.heap.size ≤ c

theorem Since.gok {n0 : Nat} {ρ0 : Ren} {W0 : Nat → Prop} {w0 : World} {ρ : Ren} {σ : AH} {w : World} (h : Since n0 ρ0 W0 w0 ρ σ w) (g : GOK W0 w0) : GOK (Wr ρ σ) w := g.of h.size h.frame h.wr

/-- One step. -/
structure Step (ρ : Ren) (σ : AH) (w : World) (ρ' : Ren) (σ' : AH) (w' : World) : Prop where
  sub : Sub ρ ρ'
  hr : HR ρ' σ' w'
  since : Since σ.nx ρ (Wr ρ σ) w ρ' σ' w'

theorem Since.start (ρ : Ren) (σ : AH) (w : World) : Since σ.nx ρ (Wr ρ σ) w ρ σ w :=
  ⟨fun _ _ => rfl, Nat.le_refl _, rfl, rfl, rfl, Nat.le_refl _, fun _ _ _ => rfl, fun _ h => .inl h⟩
theorem Step.refl {ρ : Ren} {σ : AH} {w : World} (h : HR ρ σ w) : Step ρ σ w ρ σ w := ⟨Sub.refl _, h, Since.start _ _ _⟩
theorem Since.step {n0 : Nat} {ρ0 : Ren} {W0 : Nat → Prop} {w0 : World} {ρ : Ren} {σ : AH} {w : World} {ρ' : Ren} {σ' : AH} {w' : World}
    (h : Since n0 ρ0 W0 w0 ρ σ w) (k : Since σ.nx ρ (Wr ρ σ) w ρ' σ' w') : Since n0 ρ0 W0 w0 ρ' σ' w' where
  keep b hb := (k.keep b (Nat.lt_of_lt_of_le hb h.n0le)).trans (h.keep b hb)
  n0le := Nat.le_trans h.n0le k.n0le
  os := k.os.trans h.os
  tape := k.tape.trans h.tape
  output := k.output.trans h.output
  size := Nat.le_trans h.size k.size
  frame c hc hw := (k.frame c (Nat.lt_of_lt_of_le hc h.size) (fun x => (h.wr c x).elim hw (fun y => by omega))).trans (h.frame c hc hw)
  wr c hc := (k.wr c hc).elim (fun x => h.wr c x) (fun y => .inr (Nat.le_trans h.size y))
theorem Step.trans {ρ : Ren} {σ : AH} {w : World} {ρ' : Ren} {σ' : AH} {w' : World} {ρ'' : Ren} {σ'' : AH} {w'' : World}
    (h : Step ρ σ w ρ' σ' w') (k : Step ρ' σ' w' ρ'' σ'' w'') : Step ρ σ w ρ'' σ'' w'' :=
  ⟨h.sub.trans k.sub, k.hr, h.since.step k.since⟩

/-- A draw alone. -/
theorem HR.of_heap {ρ : Ren} {σ : AH} {w w' : World} (h : HR ρ σ w) (e : w'.heap = w.heap) : HR ρ σ w' :=
  ⟨h.dom, fun b r x => by rw [e]; exact h.lt b r x, fun b r x => OR.of_heap (by rw [e]) (h.obj b r x), h.inj⟩
theorem Since.of_heap {n0 : Nat} {ρ0 : Ren} {W0 : Nat → Prop} {w0 : World} {ρ : Ren} {σ : AH} {w w' : World} (h : Since n0 ρ0 W0 w0 ρ σ w)
    (e : w'.heap = w.heap) (o : w'.os = w.os) (t : w'.tape = w.tape) (p : w'.output = w.output) : Since n0 ρ0 W0 w0 ρ σ w' :=
  ⟨h.keep, h.n0le, o.trans h.os, t.trans h.tape, p.trans h.output, by rw [e]; exact h.size, fun c hc hw => by rw [e]; exact h.frame c hc hw, h.wr⟩

/-- A new block. -/
def Ren.push (ρ : Ren) (b : Nat) (r : R) : Ren := fun x => if x = b then some r else ρ x
theorem Ren.push_same (ρ : Ren) (b : Nat) (r : R) : ρ.push b r b = some r := by simp [Ren.push]
theorem HR.sub_push {ρ : Ren} {σ : AH} {w : World} (h : HR ρ σ w) (r : R) : Sub ρ (ρ.push σ.nx r) := fun b x hb => by
  have := h.dom b x hb
  simp only [Ren.push]; rw [if_neg (by omega)]; exact hb
theorem step_push {ρ : Ren} {σ : AH} {w w' : World} (h : HR ρ σ w) (o : AObj) (r : R) (mo : Obj)
    (hb : r.blk = w.heap.size) (e : w'.heap = w.heap.push mo) (hos : w'.os = w.os) (ht : w'.tape = w.tape) (hp : w'.output = w.output)
    (ho : OR (ρ.push σ.nx r) w' r o) : Step ρ σ w (ρ.push σ.nx r) (σ.push o) w' := by
  have hs := h.sub_push r
  have old : ∀ c, c < w.heap.size → w'.heap[c]? = w.heap[c]? := fun c hc => by rw [e, Array.getElem?_push, if_neg (by omega)]
  have key : ∀ b x, ρ.push σ.nx r b = some x → (b = σ.nx ∧ x = r) ∨ (b ≠ σ.nx ∧ ρ b = some x) := fun b x hx => by
    by_cases hbx : b = σ.nx
    · subst hbx; simp only [Ren.push, if_true, Option.some.injEq] at hx; exact .inl ⟨rfl, hx.symm⟩
    · simp only [Ren.push, hbx, if_false] at hx; exact .inr ⟨hbx, hx⟩
  refine ⟨hs, ⟨?_, ?_, ?_, ?_⟩, ⟨?_, ?_, hos, ht, hp, ?_, ?_, ?_⟩⟩
  · intro b x hx
    rw [AH.nx_push]
    rcases key b x hx with ⟨rfl, _⟩ | ⟨_, hx⟩
    · omega
    · have := h.dom b x hx; omega
  · intro b x hx
    rw [e, Array.size_push]
    rcases key b x hx with ⟨_, rfl⟩ | ⟨_, hx⟩
    · omega
    · have := h.lt b x hx; omega
  · intro b x hx
    rcases key b x hx with ⟨rfl, rfl⟩ | ⟨hne, hx⟩
    · rw [AH.get_push_same]; exact ho
    · rw [AH.get_push_ne _ _ hne]
      exact OR.of_heap (old _ (h.lt b x hx)) ((h.obj b x hx).mono hs)
  · intro b b' x x' hne hx hx' hw hl
    rcases key b x hx with ⟨e1, e2⟩ | ⟨hn, hy⟩ <;> rcases key b' x' hx' with ⟨e1', e2'⟩ | ⟨hn', hy'⟩
    · exact absurd (e1.trans e1'.symm) hne
    · have := h.lt b' _ hy'; rw [e2]; omega
    · have := h.lt b _ hy; rw [e2']; omega
    · rw [AH.get_push_ne _ _ hn] at hw
      rw [AH.get_push_ne _ _ hn'] at hl
      exact h.inj b b' x x' hne hy hy' hw hl
  · intro b hb
    simp only [Ren.push]; rw [if_neg (by omega)]
  · rw [AH.nx_push]; omega
  · rw [e, Array.size_push]; omega
  · intro c hc _
    exact old c hc
  · rintro c ⟨b, x, hx, hw, rfl⟩
    rcases key b x hx with ⟨rfl, rfl⟩ | ⟨hn, hx⟩
    · exact .inr (by omega)
    · rw [AH.get_push_ne _ _ hn] at hw
      exact .inl ⟨b, x, hx, hw, rfl⟩

/-- A block is written. -/
theorem step_set {ρ : Ren} {σ : AH} {w w' : World} (h : HR ρ σ w) (b : Nat) (o : AObj) (r : R) (hr : ρ b = some r) (hw : (σ.get b).wr = true) (how : o.wr = true)
    (hsize : w'.heap.size = w.heap.size) (hos : w'.os = w.os) (ht : w'.tape = w.tape) (hp : w'.output = w.output)
    (old : ∀ c, c ≠ r.blk → w'.heap[c]? = w.heap[c]?) (ho : OR ρ w' r o) : Step ρ σ w ρ (σ.set b o) w' := by
  have hlive : σ.get b ≠ .dead := by intro e; rw [e] at hw; cases hw
  have getb : (σ.set b o).get b = o := AH.get_set_same _ _ hlive
  have wrOf : ∀ k, ((σ.set b o).get k).wr = true → (σ.get k).wr = true := fun k hk => by
    by_cases e : k = b
    · subst e; exact hw
    · rwa [AH.get_set_ne _ _ e] at hk
  have liveOf : ∀ k, ((σ.set b o).get k).live = true → (σ.get k).live = true := fun k hk => by
    by_cases e : k = b
    · subst e; exact AObj.wr_live hw
    · rwa [AH.get_set_ne _ _ e] at hk
  refine ⟨Sub.refl _, ⟨h.dom, fun k x hx => by rw [hsize]; exact h.lt k x hx, ?_, ?_⟩, ⟨fun _ _ => rfl, by rw [AH.nx_set]; exact Nat.le_refl _, hos, ht, hp, by omega, ?_, ?_⟩⟩
  · intro k x hx
    by_cases e : k = b
    · subst e
      rw [hr] at hx; cases hx
      rw [getb]; exact ho
    · rw [AH.get_set_ne _ _ e]
      by_cases hd : (σ.get k).live = true
      · exact OR.of_heap (old _ (fun c => h.inj b k r x (Ne.symm e) hr hx hw hd c.symm)) (h.obj k x hx)
      · have : σ.get k = .dead := by cases hk : σ.get k <;> simp_all [AObj.live]
        rw [this]; trivial
  · intro k k' x x' hne hx hx' h1 h2
    exact h.inj k k' x x' hne hx hx' (wrOf k h1) (liveOf k' h2)
  · intro c hc hnw
    exact old c (fun e => hnw ⟨b, r, hr, hw, e.symm⟩)
  · rintro c ⟨k, x, hx, hk, rfl⟩
    exact .inl ⟨k, x, hx, wrOf k hk, rfl⟩

end Go.Proofs.Yteneafgmcmgahaa.V
