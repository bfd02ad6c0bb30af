/- Own library, part 6: rows that grow, copy, len, make, literals over abstract values. -/
import Derived.Test.YteneafgmcmgahaaV5
namespace Go.Proofs.Yteneafgmcmgahaa.V
open Go
set_option linter.unusedSimpArgs false
set_option linter.unusedVariables false

variable {P : Program} {ρ : Ren} {σ : AH} {w : World}

-- ------------------------------------------------------------------ a row is handed on under a new name
theorem step_move (h : HR ρ σ w) (b : Nat) (o : AObj) (r : R) (hr : ρ b = some r) (hw : (σ.get b).wr = true) (ho : OR ρ w r o) (hwo : o.wr = true) :
    Step ρ σ w (ρ.push σ.nx r) ((σ.set b .dead).push o) w := by
  have hs : Sub ρ (ρ.push σ.nx r) := h.sub_push r
  have hlive : σ.get b ≠ .dead := by intro e; rw [e] at hw; cases hw
  have gb : (σ.set b .dead).get b = .dead := AH.get_set_same _ _ hlive
  have hbn : b < σ.nx := h.dom b r hr
  have key : ∀ k x, ρ.push σ.nx r k = some x → (k = σ.nx ∧ x = r) ∨ (k ≠ σ.nx ∧ ρ k = some x) := fun k x hx => by
    by_cases e : k = σ.nx
    · subst e; simp only [Ren.push, if_true, Option.some.injEq] at hx; exact .inl ⟨rfl, hx.symm⟩
    · simp only [Ren.push, e, if_false] at hx; exact .inr ⟨e, hx⟩
  have gnew : ((σ.set b .dead).push o).get σ.nx = o := AH.get_push_same (σ.set b .dead) o
  have gold : ∀ k, k ≠ σ.nx → k ≠ b → ((σ.set b .dead).push o).get k = σ.get k := fun k h1 h2 => by
    rw [AH.get_push_ne (σ.set b .dead) o h1, AH.get_set_ne _ _ h2]
  have gdead : ((σ.set b .dead).push o).get b = .dead := by
    rw [AH.get_push_ne (σ.set b .dead) o (by show b ≠ σ.nx; omega)]; exact gb
  refine ⟨hs, ⟨?_, ?_, ?_, ?_⟩, ⟨?_, ?_, rfl, rfl, rfl, Nat.le_refl _, fun _ _ _ => rfl, ?_⟩⟩
  · intro k x hx
    show k < σ.nx + 1
    rcases key k x hx with ⟨rfl, _⟩ | ⟨_, hy⟩
    · omega
    · have := h.dom k x hy; omega
  · intro k x hx
    rcases key k x hx with ⟨_, rfl⟩ | ⟨_, hy⟩
    · exact h.lt b _ hr
    · exact h.lt k x hy
  · intro k x hx
    rcases key k x hx with ⟨rfl, rfl⟩ | ⟨hn, hy⟩
    · rw [gnew]; exact ho.mono hs
    · by_cases e : k = b
      · subst e; rw [gdead]; trivial
      · rw [gold k hn e]; exact (h.obj k x hy).mono hs
  · intro k k' x x' hne hx hx' h1 h2
    rcases key k x hx with ⟨e1, e2⟩ | ⟨hn, hy⟩ <;> rcases key k' x' hx' with ⟨e1', e2'⟩ | ⟨hn', hy'⟩
    · exact absurd (e1.trans e1'.symm) hne
    · by_cases e : k' = b
      · subst e; rw [gdead] at h2; cases h2
      · rw [gold k' hn' e] at h2
        rw [e2]
        exact h.inj b k' r x' (Ne.symm e) hr hy' hw h2
    · by_cases e : k = b
      · subst e; rw [gdead] at h1; cases h1
      · rw [gold k hn e] at h1
        rw [e2']
        exact h.inj k b x r e hy hr h1 (AObj.wr_live hw)
    · by_cases e : k = b
      · subst e; rw [gdead] at h1; cases h1
      · by_cases e' : k' = b
        · subst e'; rw [gdead] at h2; cases h2
        · rw [gold k hn e] at h1
          rw [gold k' hn' e'] at h2
          exact h.inj k k' x x' hne hy hy' h1 h2
  · intro k hk
    simp only [Ren.push]; rw [if_neg (by omega)]
  · show σ.nx ≤ σ.nx + 1; omega
  · rintro c ⟨k, x, hx, hk, rfl⟩
    rcases key k x hx with ⟨e1, e2⟩ | ⟨hn, hy⟩
    · rw [e2]; exact .inl ⟨b, r, hr, hw, rfl⟩
    · by_cases e : k = b
      · subst e; rw [gdead] at hk; cases hk
      · rw [gold k hn e] at hk
        exact .inl ⟨k, x, hy, hk, rfl⟩

/-- A block is given up. -/
theorem step_kill (h : HR ρ σ w) (b : Nat) : Step ρ σ w ρ (σ.set b .dead) w := by
  by_cases hd : σ.get b = .dead
  · have e : ∀ k, (σ.set b .dead).get k = σ.get k := fun k => by
      by_cases hk : k = b
      · subst hk
        rw [hd]
        simp only [AH.get, AH.set, lookH_setH, if_true]
        split <;> rfl
      · exact AH.get_set_ne _ _ hk
    refine ⟨Sub.refl _, ⟨h.dom, h.lt, fun k x hx => by rw [e]; exact h.obj k x hx, fun k k' x x' a b' c d f => by rw [e] at d f; exact h.inj k k' x x' a b' c d f⟩,
      ⟨fun _ _ => rfl, Nat.le_refl _, rfl, rfl, rfl, Nat.le_refl _, fun _ _ _ => rfl, fun c ⟨k, x, hx, hk, hc⟩ => .inl ⟨k, x, hx, by rw [e] at hk; exact hk, hc⟩⟩⟩
  · have gb : (σ.set b .dead).get b = .dead := AH.get_set_same _ _ hd
    refine ⟨Sub.refl _, ⟨h.dom, h.lt, ?_, ?_⟩, ⟨fun _ _ => rfl, Nat.le_refl _, rfl, rfl, rfl, Nat.le_refl _, fun _ _ _ => rfl, ?_⟩⟩
    · intro k x hx
      by_cases e : k = b
      · subst e; rw [gb]; trivial
      · rw [AH.get_set_ne _ _ e]; exact h.obj k x hx
    · intro k k' x x' hne hx hx' h1 h2
      have e : k ≠ b := fun e => by subst e; rw [gb] at h1; cases h1
      have e' : k' ≠ b := fun e => by subst e; rw [gb] at h2; cases h2
      rw [AH.get_set_ne _ _ e] at h1
      rw [AH.get_set_ne _ _ e'] at h2
      exact h.inj k k' x x' hne hx hx' h1 h2
    · rintro c ⟨k, x, hx, hk, rfl⟩
      have e : k ≠ b := fun e => by subst e; rw [gb] at hk; cases hk
      rw [AH.get_set_ne _ _ e] at hk
      exact .inl ⟨k, x, hx, hk, rfl⟩

/-- A draw. -/
theorem step_drew (h : HR ρ σ w) : Step ρ σ w ρ σ w.drew :=
  ⟨Sub.refl _, h.of_heap rfl, ⟨fun _ _ => rfl, Nat.le_refl _, rfl, rfl, rfl, Nat.le_refl _, fun _ _ _ => rfl, fun _ x => .inl x⟩⟩

/-- A new row that grew. -/
theorem step_grown {e z cap : Nat} {cs : List AV} {l rest : List Value} (h : HR ρ σ w) (hl : VRs ρ cs l) (hz : 0 < z) (hsz : (l ++ rest).length = cap * z) :
    Step ρ σ w (ρ.push σ.nx ⟨w.heap.size, 0, z, cap⟩) (σ.push (.opn e z cs)) (w.alloc (.cells ⟨l ++ rest⟩ e)) := by
  refine step_push h _ _ (.cells ⟨l ++ rest⟩ e) rfl rfl rfl rfl rfl ?_
  exact ⟨rfl, rfl, hz, l, rest, heap_alloc_new w _, hl.mono (h.sub_push _), hsz⟩

-- ------------------------------------------------------------------ what is appended or copied
/-- How many elements, and their cells. -/
def aSrc (z : Nat) (x : AV) (σ : AH) : Option (Nat × List AV) :=
  match x with
  | .nilslice => some (0, [])
  | .str s => if z = 1 then some (s.size, s.data.toList.map fun b => .int .u8 b.toNat) else none
  | .slice b o n _ => if n = 0 then some (0, []) else match (σ.get b).cs? with
    | some cs => if o + n * z ≤ cs.length then some (n, (cs.drop o).take (n * z)) else none
    | none => none
  | _ => none
theorem src_ok {z n : Nat} {x : AV} {x' : Value} {cs : List AV} (h : HR ρ σ w) (hx : VR ρ x x') (e : aSrc z x σ = some (n, cs)) :
    (Builtin.lenOf x').run P w = .ok n w ∧ ∃ l, VRs ρ cs l ∧ l.length = n * z ∧ ∀ w1 : World, w1.heap = w.heap → (Builtin.firstCells z n x').run P w1 = .ok ⟨l⟩ w1 := by
  unfold aSrc at e
  split at e
  · cases e; cases hx
    exact ⟨rfl, [], .nil, by simp, fun _ _ => rfl⟩
  · rename_i s
    split at e
    · rename_i hz
      cases e; cases hx
      subst hz
      refine ⟨rfl, s.data.toList.map fun b => .int .u8 b.toNat, ?_, by simp, fun w1 _ => ?_⟩
      · have : ∀ l : List UInt8, VRs ρ (l.map fun b => AV.int .u8 b.toNat) (l.map fun b => Value.int .u8 b.toNat) := by
          intro l
          induction l with
          | nil => exact .nil
          | cons a l ih => exact .cons (.int _ _) ih
        exact this _
      · simp only [Builtin.firstCells, Sem.run_pure]
        congr 1
        have : s.extract 0 s.size = s := by simp
        rw [this]
        apply Array.ext'
        simp
    · cases e
  · rename_i b o m c
    split at e
    · rename_i hm
      subst hm
      cases e
      have z0 : ∀ (a : Addr) (k : Nat), (Builtin.lenOf (.slice (some a) 0 k)).run P w = .ok 0 w ∧ ∃ l, VRs ρ [] l ∧ l.length = 0 * z ∧ ∀ w1 : World, w1.heap = w.heap → (Builtin.firstCells z 0 (.slice (some a) 0 k)).run P w1 = .ok ⟨l⟩ w1 := by
        intro a k
        refine ⟨rfl, [], .nil, by simp, fun w1 _ => ?_⟩
        simp [Builtin.firstCells, Go.loadCells, loadCellsFrom]
      cases hx with
      | slice hr => exact z0 _ _
      | slicee => exact z0 _ _
      | sliceo _ _ _ hn _ => omega
    · rename_i hm
      split at e
      · rename_i cs0 hc
        split at e
        · rename_i hle
          cases e
          have go : ∀ (r : R) (k : Nat), ρ b = some r → (Builtin.lenOf (.slice (some ⟨r.blk, r.sh + o, none⟩) n k)).run P w = .ok n w ∧
              ∃ l, VRs ρ ((cs0.drop o).take (n * z)) l ∧ l.length = n * z ∧ ∀ w1 : World, w1.heap = w.heap → (Builtin.firstCells z n (.slice (some ⟨r.blk, r.sh + o, none⟩) n k)).run P w1 = .ok ⟨l⟩ w1 := by
            intro r k hr
            obtain ⟨l, hv, hn, hcell⟩ := h.cells hr hc hle
            refine ⟨rfl, l, hv, hn, fun w1 e1 => ?_⟩
            have := run_loadCells_list (P := P) w1 ⟨r.blk, r.sh + o, none⟩ l (fun j v hj => by rw [World.cell?_of_block (w := w) (by rw [e1])]; exact hcell j v hj)
            rw [hn] at this
            simpa [Builtin.firstCells] using this
          cases hx with
          | slice hr => exact go _ _ hr
          | slicee => exact absurd rfl hm
          | sliceo hr hs ho hn hc' =>
            rename_i r i
            have := go r (r.cap - i) hr
            rwa [hs, Nat.zero_add] at this
        · cases e
      · cases e
  · cases e

/-- A type that is no whole number's. -/
def nintT (P : Program) (t : Nat) : Bool := match P.underlying t with | some (.int _) => false | some _ => true | none => false

set_option maxHeartbeats 8000000 in
theorem run_append_any {t tx ty e z by_ n : Nat} {zc : List AV} (ht : sliT P t = some e) (hz : szT P e = some z) (hb : byT P e = some by_) (hzc : zeroT P e = some zc) (hzl : zc.length = z)
    (hn : nintT P tx = true) (base : Option Addr) (sLen sCap : Nat) (x' : Value) (new : List Value) (hlen : (Builtin.lenOf x').run P w = .ok n w)
    (hnew : ∀ w1 : World, w1.heap = w.heap → (Builtin.firstCells z n x').run P w1 = .ok ⟨new⟩ w1) :
    (sLen + n ≤ sCap → (Builtin.append_ #[t, tx] ty #[.slice base sLen sCap, x']).run P w =
      ((match base with | some a => storeCells (a.add (sLen * z)) new | none => pure ()).run P w).andThen fun _ w' => .ok (.slice base (sLen + n) sCap) w') ∧
    (∀ old : List Value, sCap < sLen + n → (sLen + n) * by_ ≤ 140737488355328 → sLen + n ≤ 140737488355328 → 0 < by_ → (∀ w1 : World, w1.heap = w.heap → (Builtin.firstCells z sLen (.slice base sLen sCap)).run P w1 = .ok ⟨old⟩ w1) →
      ∃ cap rest, sLen + n ≤ cap ∧ rest.length = (cap - (sLen + n)) * z ∧ (Builtin.append_ #[t, tx] ty #[.slice base sLen sCap, x']).run P w =
        .ok (.slice (some ⟨w.heap.size, 0, none⟩) (sLen + n) cap) (w.drew.alloc (.cells ⟨old ++ new ++ rest⟩ e))) := by
  have hu := sliT_u ht
  unfold szT at hz
  unfold byT at hb
  unfold zeroT at hzc
  cases hi : P.info? e with
  | none => simp [hi] at hz
  | some i =>
    simp only [hi, Option.map_some, Option.some.injEq] at hz hb
    cases hz0 : i.zero with
    | none => simp [hi, hz0] at hzc
    | some zv =>
      simp only [hi, Option.bind_some, hz0] at hzc
      have hzs : zv.cells.size = z := by rw [← hzl, (ofFlats_VRs hzc (fun _ => none)).length]; simp
      have hdx : ∃ d, P.underlying tx = some d ∧ ∀ k, d ≠ .int k := by
        unfold nintT at hn
        split at hn
        · cases hn
        · rename_i d hd1 hd2
          exact ⟨_, hd2, fun k e => hd1 k e⟩
        · cases hn
      obtain ⟨d, hd, hdn⟩ := hdx
      subst hz hb
      constructor
      · intro hle
        cases d with
        | int k => exact absurd rfl (hdn k)
        | _ =>
          simp only [Builtin.append_, List.getElem?_toArray, List.getElem?_cons_zero, List.getElem?_cons_succ, run_underlying hu, run_underlying hd, sizeOf, typeInfo, hi, hlen, hle, hnew w rfl,
            Sem.run_bind, Sem.run_pure, Result.andThen_ok, run_program, Bool.false_eq_true, if_false, if_true, Bool.not_false]
          cases base <;> simp only [Sem.run_bind, Sem.run_pure, Result.andThen_ok]
      · intro old hgt hby hlt hpos hold
        have h1 : ¬ (sLen + n ≤ sCap) := by omega
        have h2 : ¬ (((sLen + n : Nat) : Int) > IntKind.i64.max ∧ i.bytes = 0) := by
          rintro ⟨_, q⟩
          omega
        have h3 : ¬ (Builtin.nextslicecap (sLen + n) sCap * i.bytes > 2 ^ 48) := by
          have := growslice_fits (need := sLen + n) (old := sCap) (bytes := i.bytes) hgt hby
          omega
        refine ⟨grownCap w (sLen + n) sCap e, (Builtin.zeroCells zv.cells (grownCap w (sLen + n) sCap e - (sLen + n))).toList, grownCap_ge _ _ _ _, by simp [size_zeroCells, hzs], ?_⟩
        have hd1 := hold w.drew rfl
        have hd2 := hnew w.drew rfl
        have h2' : ¬ (9223372036854775807 < ((sLen : Int) + (n : Int))) := by omega
        have h3' : ¬ (281474976710656 < Builtin.nextslicecap (sLen + n) sCap * i.bytes) := by omega
        have hfin : (⟨old⟩ ++ (⟨new⟩ ++ Builtin.zeroCells zv.cells (grownCap w (sLen + n) sCap e - (sLen + n))) : Array Value) = ⟨old ++ new ++ (Builtin.zeroCells zv.cells (grownCap w (sLen + n) sCap e - (sLen + n))).toList⟩ := by
          apply Array.ext'
          simp [List.append_assoc]
        have hfin' : (⟨old⟩ ++ ⟨new⟩ ++ Builtin.zeroCells zv.cells (grownCap w (sLen + n) sCap e - (sLen + n)) : Array Value) = ⟨old ++ new ++ (Builtin.zeroCells zv.cells (grownCap w (sLen + n) sCap e - (sLen + n))).toList⟩ := by
          apply Array.ext'
          simp [List.append_assoc]
        unfold grownCap at hfin hfin'
        cases d with
        | int k => exact absurd rfl (hdn k)
        | _ =>
          simp only [Builtin.append_, List.getElem?_toArray, List.getElem?_cons_zero, List.getElem?_cons_succ, run_underlying hu, run_underlying hd, sizeOf, typeInfo, zeroValue, hi, hz0, hlen, h1, Question.forced, hd1, hd2, newRow, grownCap,
            Sem.run_bind, Sem.run_pure, Result.andThen_ok, run_program, Bool.false_eq_true, if_false, if_true, Bool.not_false, run_choose, run_askRoom, World.drew_eq, run_newObj, World.alloc_eq, Sem.run_ite, h2, h3, hfin, hfin', false_or, World.size_drew]

def aAppend (P : Program) (t tx : Nat) (s x : AV) (σ : AH) : Option (AV × AH) :=
  match sliT P t with
  | none => none
  | some e => match szT P e, byT P e, zeroT P e, nintT P tx with
    | some z, some by_, some zc, true => if 0 < z ∧ 0 < by_ ∧ zc.length = z then match aSrc z x σ with
      | none => none
      | some (n2, new) => match s with
        | .nilslice => if n2 = 0 then some (.nilslice, σ) else
            if n2 * by_ ≤ 140737488355328 ∧ n2 ≤ 140737488355328 then some (.slice σ.nx 0 n2 none, σ.push (.opn e z new)) else none
        | .slice b o n (some c) => if n + n2 ≤ c then
            (if n2 = 0 then some (.slice b o n (some c), σ) else match (σ.get b).wr, (σ.get b).cs? with
              | true, some cs => if o + n * z + new.length ≤ cs.length ∧ new.all AV.one = true then some (.slice b o (n + n2) (some c), σ.set b ((σ.get b).upd (splice cs (o + n * z) new))) else none
              | _, _ => none)
            else if (n + n2) * by_ ≤ 140737488355328 ∧ n + n2 ≤ 140737488355328 then
              (if n = 0 then some (.slice σ.nx 0 n2 none, σ.push (.opn e z new)) else match (σ.get b).cs? with
              | some cs => if o + n * z ≤ cs.length then some (.slice σ.nx 0 (n + n2) none, σ.push (.opn e z ((cs.drop o).take (n * z) ++ new))) else none
              | none => none) else none
        | .slice b o n none => if n2 = 0 then some (.slice b o n none, σ) else match σ.get b with
            | .opn e' z' cs => if e' = e ∧ z' = z ∧ o = 0 ∧ 0 < n ∧ n * z = cs.length ∧ (n + n2) * by_ ≤ 140737488355328 ∧ n + n2 ≤ 140737488355328 ∧ new.all AV.one = true then
                some (.slice σ.nx 0 (n + n2) none, (σ.set b .dead).push (.opn e z (cs ++ new))) else none
            | _ => none
        | _ => none
      else none
    | _, _, _, _ => none

theorem ok_append {t tx ty : Nat} {s x v : AV} {s' x' : Value} {σ' : AH} (h : HR ρ σ w) (hs : VR ρ s s') (hx : VR ρ x x') (e : aAppend P t tx s x σ = some (v, σ')) :
    Ok P (Builtin.append_ #[t, tx] ty #[s', x']) ρ σ w v σ' := by
  unfold aAppend at e
  split at e
  · cases e
  · rename_i el ht
    split at e
    · rename_i z by_ zc hz hb hzc hn
      split at e
      · rename_i hq
        obtain ⟨hz0, hb0, hzl⟩ := hq
        split at e
        · cases e
        · rename_i n2 new hsrc
          obtain ⟨hlen, l, hl, hll, hfirst⟩ := src_ok (P := P) h hx hsrc
          have gen := fun base sLen sCap => run_append_any (ty := ty) ht hz hb hzc hzl hn base sLen sCap x' l hlen hfirst
          -- a new row
          have grown : ∀ (sLen need : Nat) (base : Option Addr) (sCap : Nat) (olda : List AV) (old : List Value), sLen + n2 = need → sCap < need → need * by_ ≤ 140737488355328 → need ≤ 140737488355328 → 0 < need →
              VRs ρ olda old → old.length = sLen * z → (∀ w1 : World, w1.heap = w.heap → (Builtin.firstCells z sLen (.slice base sLen sCap)).run P w1 = .ok ⟨old⟩ w1) →
              Ok P (Builtin.append_ #[t, tx] ty #[.slice base sLen sCap, x']) ρ σ w (.slice σ.nx 0 need none) (σ.push (.opn el z (olda ++ new))) := by
            intro sLen need base sCap olda old hneed hlt hby hsz hpos hold hol hfc
            subst hneed
            obtain ⟨cap, rest, hcap, hrest, hrun⟩ := (gen base sLen sCap).2 old hlt hby hsz hb0 hfc
            have hst := step_grown (e := el) (z := z) (cap := cap) (cs := olda ++ new) (l := old ++ l) (rest := rest) (step_drew h).hr (hold.append hl) hz0 (by
              simp only [List.length_append, hol, hll, hrest, ← Nat.add_mul]
              congr 1
              omega)
            refine ⟨_, _, _, hrun, ?_, (step_drew h).trans hst⟩
            have := VR.sliceo (ρ := ρ.push σ.nx ⟨w.heap.size, 0, z, cap⟩) (b := σ.nx) (o := 0) (n := sLen + n2) (i := 0) (Ren.push_same _ _ _) rfl (by simp) hpos (by simpa using hcap)
            simpa using this
          split at e
          · -- nil
            cases hs
            split at e
            · rename_i h0
              cases e
              subst h0
              refine .same h ?_ .nilslice
              have := (gen none 0 0).1 (by omega)
              simpa using this
            · rename_i h0
              split at e
              · rename_i hbd
                cases e
                have := grown 0 n2 none 0 [] [] (by omega) (by omega) hbd.1 hbd.2 (by omega) .nil (by simp) (fun w1 _ => by simp [Builtin.firstCells])
                simpa using this
              · cases e
          · -- closed
            rename_i b o n c
            cases hs with
            | slice hr =>
              rename_i r
              split at e
              · rename_i hle
                have hrun := (gen (some ⟨r.blk, r.sh + o, none⟩) n c).1 hle
                split at e
                · rename_i h0
                  cases e
                  subst h0
                  have hl0 : l = [] := List.eq_nil_of_length_eq_zero (by simpa using hll)
                  subst hl0
                  refine .same h ?_ (.slice hr)
                  rw [hrun]
                  simp [Go.storeCells]
                · split at e
                  · rename_i cs hw hc
                    split at e
                    · rename_i hq
                      cases e
                      obtain ⟨w', h1, h2⟩ := h.storeCells (P := P) (vs := new) hr hw hc hq.1 hq.2 hl
                      refine ⟨_, w', ρ, ?_, .slice hr, h2⟩
                      rw [hrun]
                      simp only [Addr.add_lit, Nat.add_assoc]
                      rw [h1]; rfl
                    · cases e
                  · cases e
              · rename_i hgt
                split at e
                · rename_i hbd
                  split at e
                  · rename_i hn0
                    cases e
                    subst hn0
                    have := grown 0 n2 (some ⟨r.blk, r.sh + o, none⟩) c [] [] (by omega) (by omega) (by simpa using hbd.1) (by omega) (by omega) .nil (by simp) (fun w1 _ => by simp [Builtin.firstCells, Go.loadCells, loadCellsFrom])
                    simpa using this
                  · rename_i hn0
                    split at e
                    · rename_i cs hc
                      split at e
                      · rename_i hle
                        cases e
                        obtain ⟨old, hv, hol, hcell⟩ := h.cells hr hc hle
                        refine grown n (n + n2) (some ⟨r.blk, r.sh + o, none⟩) c _ old rfl (by omega) hbd.1 hbd.2 (by omega) hv hol (fun w1 e1 => ?_)
                        have := run_loadCells_list (P := P) w1 ⟨r.blk, r.sh + o, none⟩ old (fun j v hj => by rw [World.cell?_of_block (w := w) (by rw [e1])]; exact hcell j v hj)
                        rw [hol] at this
                        simpa [Builtin.firstCells] using this
                      · cases e
                    · cases e
                · cases e
          · -- a row that grew
            rename_i b o n
            split at e
            · rename_i h0
              cases e
              subst h0
              have hl0 : l = [] := List.eq_nil_of_length_eq_zero (by simpa using hll)
              subst hl0
              cases hs with
              | slicee =>
                rename_i a k
                refine .same (v' := .slice (some a) 0 k) h ?_ .slicee
                rw [(gen (some a) 0 k).1 (by omega)]
                simp [Go.storeCells]
              | sliceo hr hs ho hn' hc =>
                rename_i r i
                refine .same h ?_ (.sliceo hr hs ho hn' hc)
                rw [(gen (some ⟨r.blk, o, none⟩) n (r.cap - i)).1 (by omega)]
                simp [Go.storeCells]
            · rename_i h0
              split at e
              · rename_i e' z' cs hget
                split at e
                · rename_i hq
                  obtain ⟨rfl, rfl, rfl, hn0, hnz, hby, hsz, hall⟩ := hq
                  cases e
                  cases hs with
                  | slicee => omega
                  | sliceo hr hs ho hn' hc =>
                    rename_i r i
                    have ho' := h.obj b r hr
                    rw [hget] at ho'
                    obtain ⟨_, hzz, hzp, old, more, hh, hold, hlen2⟩ := ho'
                    have hi0 : i = 0 := by
                      rcases Nat.eq_zero_or_pos i with q | q
                      · exact q
                      · have : 0 < i * r.sz := Nat.mul_pos q (by omega)
                        omega
                    subst hi0
                    have hol : old.length = n * z' := by rw [← hold.length]; omega
                    have hrun := gen (some ⟨r.blk, 0, none⟩) n (r.cap - 0)
                    have hone := hl.one hall
                    by_cases hfit : n + n2 ≤ r.cap - 0
                    · -- in place
                      have hmore : n2 * z' ≤ more.length := by
                        have : (n + n2) * z' ≤ r.cap * z' := Nat.mul_le_mul_right _ (by omega)
                        rw [Nat.add_mul] at this
                        simp only [List.length_append, hol] at hlen2
                        omega
                      have hst := run_storeCells_at P r.blk (n * z') e' l 0 ⟨old ++ more⟩ w hh (by simp; omega) hone
                      simp only [Nat.add_zero] at hst
                      have e1 : (old ++ more).take (n * z') ++ l ++ (old ++ more).drop (n * z' + l.length) = old ++ (l ++ more.drop l.length) := by
                        rw [List.take_append_of_le_length (by omega), List.take_of_length_le (by omega), List.drop_append, List.drop_of_length_le (by omega)]
                        simp [hol]
                      rw [e1] at hst
                      have hw1 : (σ.get b).wr = true := by rw [hget]; rfl
                      have hheap := setRow_heap w r.blk _ (old ++ (l ++ more.drop l.length)).toArray e' _ hh
                      have hsz3 : (old ++ (l ++ more.drop l.length)).length = r.cap * z' := by
                        rw [← hlen2]; simp; omega
                      have s1 := step_set (w' := w.setRow r.blk (old ++ (l ++ more.drop l.length)).toArray) h b (.opn e' z' cs) r hr hw1 rfl (size_setRow _ _ _) rfl rfl rfl (fun c hc => setRow_other w r.blk c _ hc)
                        ⟨hs, hzz, hzp, old, l ++ more.drop l.length, hheap, hold, hsz3⟩
                      have hlive : σ.get b ≠ .dead := by rw [hget]; simp
                      have s2 := step_move s1.hr b (.opn e' z' (cs ++ new)) r hr (by rw [AH.get_set_same _ _ hlive]; rfl)
                        ⟨hs, hzz, hzp, old ++ l, more.drop l.length, by simpa [List.append_assoc] using hheap, hold.append hl, by simpa [List.append_assoc] using hsz3⟩ rfl
                      have eh : ((σ.set b (.opn e' z' cs)).set b .dead) = σ.set b .dead := by
                        simp only [AH.set]
                        congr 1
                        generalize σ.m = m
                        induction m with
                        | nil => rfl
                        | cons p m ih =>
                          obtain ⟨k, y⟩ := p
                          by_cases q : k = b <;> simp [setH, q, ih]
                      rw [eh] at s2
                      refine ⟨.slice (some ⟨r.blk, 0, none⟩) (n + n2) (r.cap - 0), _, _, ?_, ?_, s1.trans s2⟩
                      · rw [hrun.1 hfit]
                        simp only [Addr.add_lit, Nat.zero_add, hst, Result.andThen_ok]
                      · have := VR.sliceo (ρ := ρ.push σ.nx r) (b := σ.nx) (o := 0) (n := n + n2) (i := 0) (Ren.push_same _ _ _) hs (by simp) (by omega) (by omega)
                        exact this
                    · -- a new row
                      have s1 := step_kill h b
                      obtain ⟨cap, rest, hcap, hrest, hr2⟩ := hrun.2 old (by omega) hby hsz hb0 (fun w1 e1 => by
                        have := run_loadCells_list (P := P) w1 ⟨r.blk, 0, none⟩ old (fun j v hj => by
                          rw [World.cell?_of_block (w := w) (by rw [e1]), Addr.add_lit, cell_of_row w r.blk (0 + j) _ e' _ hh]
                          have hlt : j < old.length := (List.getElem?_eq_some_iff.1 hj).1
                          simp only [List.getElem?_toArray, Nat.zero_add]
                          rw [List.getElem?_append_left hlt]
                          exact hj)
                        rw [hol] at this
                        simpa [Builtin.firstCells] using this)
                      have s2 := step_grown (e := e') (z := z') (cap := cap) (cs := cs ++ new) (l := old ++ l) (rest := rest) (step_drew s1.hr).hr (hold.append hl) hzp (by
                        simp only [List.length_append, hol, hll, hrest, ← Nat.add_mul]
                        congr 1
                        omega)
                      refine ⟨_, _, _, hr2, ?_, s1.trans ((step_drew s1.hr).trans s2)⟩
                      have := VR.sliceo (ρ := ρ.push σ.nx ⟨w.heap.size, 0, z', cap⟩) (b := σ.nx) (o := 0) (n := n + n2) (i := 0) (Ren.push_same _ _ _) rfl (by simp) (by omega) (by simpa using hcap)
                      simp only [Nat.sub_zero] at this
                      exact this
                · cases e
              · cases e
          · cases e
      · cases e
    · cases e

end Go.Proofs.Yteneafgmcmgahaa.V
