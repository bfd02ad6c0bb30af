/- Own library, part 13: functions of plain values alone; a whole walk; laws. -/
import Derived.Test.YteneafgmcmgahaaV12
import Derived.Test.YteneafgmcmgahaaV10
import Derived.KernelRfl
namespace Go.Proofs.Yteneafgmcmgahaa.V
open Go
set_option linter.unusedSimpArgs false
set_option linter.unusedVariables false

variable {P : Program}

-- ------------------------------------------------------------------ plain values
mutual
def AV.pf : AV → Bool
  | .ptr _ _ | .slice _ _ _ _ | .map _ => false
  | .func _ f c => pfs f && pfs c
  | .iface _ v => AV.pf v
  | .agg cs => pfs cs
  | .tup vs => pfs vs
  | _ => true
def pfs : List AV → Bool
  | [] => true
  | v :: r => AV.pf v && pfs r
end
mutual
theorem VR.pf {ρ ρ' : Ren} : ∀ {v : AV} {v' : Value}, VR ρ v v' → v.pf = true → VR ρ' v v'
  | _, _, .bool b, _ => .bool b
  | _, _, .int k n, _ => .int k n
  | _, _, .str s, _ => .str s
  | _, _, .ptr h, e => by simp [AV.pf] at e
  | _, _, .nilptr, _ => .nilptr
  | _, _, .gp a b, _ => .gp a b
  | _, _, .slice h, e => by simp [AV.pf] at e
  | _, _, .slicee, e => by simp [AV.pf] at e
  | _, _, .sliceo h a b c d, e => by simp [AV.pf] at e
  | _, _, .nilslice, _ => .nilslice
  | _, _, .map h, e => by simp [AV.pf] at e
  | _, _, .nilmap, _ => .nilmap
  | _, _, .func a b, e => by simp only [AV.pf, Bool.and_eq_true] at e; exact .func (VRs.pf a e.1) (VRs.pf b e.2)
  | _, _, .nilFunc, _ => .nilFunc
  | _, _, .iface a, e => by simp only [AV.pf] at e; exact .iface (VR.pf a e)
  | _, _, .nilIface, _ => .nilIface
  | _, _, .agg a, e => by simp only [AV.pf] at e; exact .agg (VRs.pf a e)
  | _, _, .tup a, e => by simp only [AV.pf] at e; exact .tup (VRs.pf a e)
theorem VRs.pf {ρ ρ' : Ren} : ∀ {l : List AV} {l' : List Value}, VRs ρ l l' → pfs l = true → VRs ρ' l l'
  | _, _, .nil, _ => .nil
  | _, _, .cons a b, e => by simp only [pfs, Bool.and_eq_true] at e; exact .cons (VR.pf a e.1) (VRs.pf b e.2)
end

/-- The empty heap. -/
def h0 : AH := ⟨0, []⟩
theorem HR.empty (w : World) : HR (fun _ => none) h0 w := ⟨fun _ _ h => by simp at h, fun _ _ h => by simp at h, fun _ _ h => by simp at h, fun _ _ _ _ _ h => by simp at h⟩

/-- A call with plain values, known in the empty heap, is known in any world: nothing that was there is turned. -/
theorem SC.any {f : Nat} {args : List AV} {v : AV} (hp : pfs args = true) (hv : v.pf = true) (h : SC P f args h0 (fun u _ => u = v)) (σ : AH) : SC P f args σ (fun u τ => u = v ∧ τ = σ) := by
  intro ρ args' w ha hr hg
  refine Calls.mono (h _ args' w (ha.pf hp) (HR.empty w) (fun p hp => ⟨fun ⟨b, r, h1, _⟩ => (by cases h1), (hg p hp).2⟩)) ?_
  rintro e w' ⟨u, v', ρ', σ', rfl, rfl, hvr, hr', hs⟩
  have old : ∀ c, c < w.heap.size → w'.heap[c]? = w.heap[c]? := fun c hc => hs.frame c hc (by rintro ⟨b, r, h1, _⟩; simp at h1)
  refine ⟨u, v', ρ, σ, rfl, ⟨rfl, rfl⟩, hvr.pf hv, ⟨hr.dom, fun b r hb => Nat.lt_of_lt_of_le (hr.lt b r hb) hs.size, fun b r hb => OR.of_heap (old _ (hr.lt b r hb)) (hr.obj b r hb), hr.inj⟩, ?_⟩
  exact ⟨fun _ _ => rfl, Nat.le_refl _, hs.os, hs.tape, hs.output, hs.size, fun c hc _ => old c hc, fun c hc => .inl hc⟩

/-- A law over plain values. -/
theorem law_plain {f : Nat} {args : List AV} {args' : List Value} (hp : pfs args = true) (ha : VRs (fun _ => none) args args') (h : SC P f args h0 (fun u _ => u = .bool true)) (w : World) (hg : GOK (fun _ => False) w := by simp [GOK, GB]) :
    Calls P f ⟨args'⟩ w (fun e w' => e = .returned (.bool true) ∧ RowKit.Below w.heap.size w w') := by
  refine Calls.mono (h _ args' w ha (HR.empty w) (fun p hp => ⟨fun ⟨b, r, h1, _⟩ => (by cases h1), (hg p hp).2⟩)) ?_
  rintro e w' ⟨u, v', ρ', σ', rfl, rfl, hvr, hr', hs⟩
  have old : ∀ c, c < w.heap.size → w'.heap[c]? = w.heap[c]? := fun c hc => hs.frame c hc (by rintro ⟨b, r, h1, _⟩; simp at h1)
  cases hvr
  exact ⟨rfl, hs.os, hs.tape, hs.output, hs.size, old⟩

-- ------------------------------------------------------------------ what is known of functions, in a list
def lookO : List (Nat × (List AV → AH → Option (AV × AH))) → Nat → Option (List AV → AH → Option (AV × AH))
  | [], _ => none
  | (k, o) :: r, f => if k = f then some o else lookO r f
@[simp] theorem lookO_nil {f : Nat} : lookO [] f = none := rfl
@[simp] theorem lookO_hit {f : Nat} {o : List AV → AH → Option (AV × AH)} {r : List (Nat × (List AV → AH → Option (AV × AH)))} : lookO ((f, o) :: r) f = some o := by simp [lookO]
@[simp] theorem lookO_miss {k f : Nat} {o : List AV → AH → Option (AV × AH)} {r : List (Nat × (List AV → AH → Option (AV × AH)))} (h : k ≠ f) : lookO ((k, o) :: r) f = lookO r f := by simp [lookO, h]

/-- All that a walk needs to know of what it calls. -/
structure Good (P : Program) (orc : Orc) : Prop where
  ok : OrcOk P orc
  quiet : OrcQuiet orc
  mix : P.follows .mixedOrders = true
theorem Good.nil (h : P.follows .mixedOrders = true) : Good P (lookO []) := ⟨fun f o e => by simp [lookO] at e, fun f o e => by simp [lookO] at e, h⟩

/-- A function of plain values: what it answers, if it is known. -/
def pureO (F : List AV → Option AV) : List AV → AH → Option (AV × AH) := fun as σ => retV σ (F as)
@[simp] theorem pureO_ap {F : List AV → Option AV} {as : List AV} {σ : AH} : pureO F as σ = retV σ (F as) := rfl
theorem Good.pure {l : List (Nat × (List AV → AH → Option (AV × AH)))} (g : Good P (lookO l)) (f : Nat) (F : List AV → Option AV)
    (h : ∀ as v, F as = some v → pfs as = true ∧ v.pf = true ∧ SC P f as h0 (fun u _ => u = v)) : Good P (lookO ((f, pureO F) :: l)) := by
  refine ⟨?_, ?_, g.mix⟩
  · intro q o e as σ v σ' ho
    simp only [lookO] at e
    split at e
    · rename_i hq
      subst hq
      cases e
      obtain ⟨h1, rfl⟩ := retV_some ho
      obtain ⟨a, b, c⟩ := h as v h1
      exact SC.any a b c _
    · exact g.ok q o e as σ v σ' ho
  · intro q o e as σ v σ' ho
    simp only [lookO] at e
    split at e
    · cases e
      obtain ⟨_, rfl⟩ := retV_some ho
      exact NoW.refl _
    · exact g.quiet q o e as σ v σ' ho

-- ------------------------------------------------------------------ a whole walk
/-- How many operations ahead write nothing. -/
def kOf : List Oper → Nat
  | [] => 0
  | o :: r => if quietOp o.op then kOf r + 1 else 0
def drawsOk (c : Code) : Bool := (drawsIn c).all fun ops => kOf ops.toList ≤ ops.toList.length && drawOk (kOf ops.toList) ops.toList
theorem Good.draws {orc : Orc} (g : Good P orc) {c : Code} (h : drawsOk c = true) : ∀ ops ∈ drawsIn c, DrawOk P orc ops := by
  intro ops ho
  unfold drawsOk at h
  rw [List.all_eq_true] at h
  have := h ops ho
  simp only [Bool.and_eq_true, decide_eq_true_eq] at this
  exact draw_sound g.ok g.quiet g.mix (kOf ops.toList) this.1 this.2
theorem walk {orc : Orc} (g : Good P orc) {f : Nat} {fn : Func} {c : Code} {args : List AV} {σ : AH} {Q : AV → AH → Prop} (hf : P.funcs[f]? = some fn) (hb : fn.body = some c) (hn : args.length ≤ fn.ntmps) (hd : drawsOk c = true)
    (h : wpA P orc σ.nx c (retQ P fn.results.toList Q) (retQ P fn.results.toList Q .normal) (AF.enter fn.ntmps args) σ) : SC P f args σ Q :=
  SC_body hf hb hn (wp_walk g.ok (g.draws hd) h)
/-- A loop's round is walked; behind it the next. -/
theorem walk_round {orc : Orc} (g : Good P orc) {n0 : Nat} {c : Code} {Q : Exit → AF → AH → Prop} {fr : AF} {σ : AH} (hd : drawsOk c = true)
    (h : wpA P orc n0 c Q (WL P n0 c Q) fr σ) : WL P n0 c Q fr σ := wl_walk g.ok (g.draws hd) h
@[simp] theorem h0_nx : h0.nx = 0 := rfl
@[simp] theorem pfs_nil : pfs [] = true := by simp [pfs]
@[simp] theorem pfs_cons {v : AV} {r : List AV} : pfs (v :: r) = (v.pf && pfs r) := by simp [pfs]
@[simp] theorem pf_int {k : IntKind} {n : Int} : (AV.int k n).pf = true := by simp [AV.pf]
@[simp] theorem pf_bool {b : Bool} : (AV.bool b).pf = true := by simp [AV.pf]
@[simp] theorem pf_str {b : ByteArray} : (AV.str b).pf = true := by simp [AV.pf]
@[simp] theorem pf_agg {l : List AV} : (AV.agg l).pf = pfs l := by simp [AV.pf]
@[simp] theorem pf_tup {l : List AV} : (AV.tup l).pf = pfs l := by simp [AV.pf]
@[simp] theorem pf_func {fn : Fn} {a b : List AV} : (AV.func fn a b).pf = (pfs a && pfs b) := by simp [AV.pf]
-- ------------------------------------------------------------------ literals
@[simp] theorem wrap_lit (n : Nat) : IntKind.i64.wrap (no_index (OfNat.ofNat n)) = ((OfNat.ofNat n : Int) + 9223372036854775808) % 18446744073709551616 - 9223372036854775808 := IntKind.wrap_i64 _
@[simp] theorem wrap_neglit (n : Nat) : IntKind.i64.wrap (-(no_index (OfNat.ofNat n))) = (-(OfNat.ofNat n : Int) + 9223372036854775808) % 18446744073709551616 - 9223372036854775808 := IntKind.wrap_i64 _

end Go.Proofs.Yteneafgmcmgahaa.V
