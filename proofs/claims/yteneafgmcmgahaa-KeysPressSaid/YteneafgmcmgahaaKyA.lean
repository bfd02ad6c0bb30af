/- keys: slices.Sorted(maps.Keys(m)) of a map with few whole-number keys, as this library has it. -/
import Derived.Test.YteneafgmcmgahaaV20
import Derived.Test.YteneafgmcmgahaaT
import Derived.Test.YteneafgmcmgahaaKyS
import Derived.WalkKit
import Derived.Below
namespace Go.Proofs.Yteneafgmcmgahaa.V
open Go Go.Proofs Go.RowKit Go.Maps Go.Sort Go.Shelf
set_option maxRecDepth 100000
set_option maxHeartbeats 1000000
set_option linter.unusedSimpArgs false
set_option linter.unusedVariables false
theorem mixedky : Try.prog.follows .mixedOrders = true := by kernel_rfl
/-- A call that hands back a plain value and leaves below what was there as it was. -/
theorem SC_of_belowG {P : Program} {f : Nat} {args : List AV} {σ : AH} {v : AV} (h : ∀ (ρ : Ren) (args' : List Value) (w : World), VRs ρ args args' → HR ρ σ w → GOK (Wr ρ σ) w → ∃ v', VR ρ v v' ∧ Calls P f ⟨args'⟩ w (fun e w' => e = .returned v' ∧ Below w.heap.size w w')) : SC P f args σ (fun u τ => u = v ∧ τ = σ) := by
  intro ρ args' w ha hr hg
  obtain ⟨v', hv, hc⟩ := h ρ args' w ha hr hg
  refine Calls.mono hc ?_
  rintro e w' ⟨rfl, hb⟩
  refine ⟨v, v', ρ, σ, rfl, ⟨rfl, rfl⟩, hv, ⟨hr.dom, fun b r hb' => Nat.lt_of_lt_of_le (hr.lt b r hb') hb.size, fun b r hb' => OR.of_heap (hb.block _ (hr.lt b r hb')) (hr.obj b r hb'), hr.inj⟩, ?_⟩
  exact ⟨fun _ _ => rfl, Nat.le_refl _, hb.os, hb.tape, hb.output, hb.size, fun c hc _ => hb.block c hc, fun c hc => .inl hc⟩
/-- A call that hands back a new block. -/
theorem SC_of_new {P : Program} {f : Nat} {args : List AV} {σ : AH} {v : AV} {o : AObj} (h : ∀ (ρ : Ren) (args' : List Value) (w : World), VRs ρ args args' → HR ρ σ w → GOK (Wr ρ σ) w →
    Calls P f ⟨args'⟩ w (fun e w' => ∃ v' r, e = .returned v' ∧ Below w.heap.size w w' ∧ w.heap.size ≤ r.blk ∧ r.blk < w'.heap.size ∧ OR (ρ.push σ.nx r) w' r o ∧ VR (ρ.push σ.nx r) v v')) : SC P f args σ (fun u τ => u = v ∧ τ = σ.push o) := by
  intro ρ args' w ha hr hg
  refine Calls.mono (h ρ args' w ha hr hg) ?_
  rintro e w' ⟨v', r, rfl, hb, h1, h2, h3, h4⟩
  have hsub := hr.sub_push r
  have gold : ∀ b, b ≠ σ.nx → (σ.push o).get b = σ.get b := fun b hb => AH.get_push_ne _ _ hb
  have gnew : (σ.push o).get σ.nx = o := AH.get_push_same _ _
  have key : ∀ {b x}, ρ.push σ.nx r b = some x → (b = σ.nx ∧ x = r) ∨ (b ≠ σ.nx ∧ ρ b = some x) := by
    intro b x hx
    by_cases hbx : b = σ.nx
    · subst hbx
      rw [Ren.push_same] at hx
      cases hx
      exact .inl ⟨rfl, rfl⟩
    · refine .inr ⟨hbx, ?_⟩
      simpa [Ren.push, hbx] using hx
  refine ⟨v, v', ρ.push σ.nx r, σ.push o, rfl, ⟨rfl, rfl⟩, h4, ⟨?_, ?_, ?_, ?_⟩, ?_⟩
  · intro b x hx
    rw [AH.nx_push]
    rcases key hx with ⟨rfl, _⟩ | ⟨_, hx⟩
    · omega
    · have := hr.dom b x hx; omega
  · intro b x hx
    rcases key hx with ⟨rfl, rfl⟩ | ⟨_, hx⟩
    · exact h2
    · exact Nat.lt_of_lt_of_le (hr.lt b x hx) hb.size
  · intro b x hx
    rcases key hx with ⟨rfl, rfl⟩ | ⟨hn, hx⟩
    · rw [gnew]; exact h3
    · rw [gold b hn]
      exact (OR.of_heap (hb.block _ (hr.lt b x hx)) (hr.obj b x hx)).mono hsub
  · intro b b' x x' hne hx hx' hw hl
    rcases key hx with ⟨p1, p2⟩ | ⟨hn, hy⟩ <;> rcases key hx' with ⟨q1, q2⟩ | ⟨hn', hy'⟩
    · exact absurd (p1.trans q1.symm) hne
    · have := hr.lt b' x' hy'; rw [p2]; omega
    · have := hr.lt b x hy; rw [q2]; omega
    · rw [gold b hn] at hw
      rw [gold b' hn'] at hl
      exact hr.inj b b' x x' hne hy hy' hw hl
  · refine ⟨?_, ?_, hb.os, hb.tape, hb.output, hb.size, fun c hc _ => hb.block c hc, ?_⟩
    · intro b hb'
      simp only [Ren.push]
      rw [if_neg (by omega)]
    · rw [AH.nx_push]; omega
    · rintro c ⟨b, x, hx, hw, rfl⟩
      rcases key hx with ⟨rfl, rfl⟩ | ⟨hn, hx⟩
      · exact .inr h1
      · rw [gold b hn] at hw
        exact .inl ⟨b, x, hx, hw, rfl⟩
def keyL : List AV → Option (List Int)
  | [] => some []
  | .int .i64 n :: r => match keyL r with
    | some l => if (Lit.int .i64 n).wf = true then some (n :: l) else none
    | none => none
  | _ :: _ => none
def eN (n : Int) : Lit × DataW Unit := (.int .i64 n, .nil)
def datL (ks : List Int) : List (Lit × DataW Unit) := (ks.map eN).foldr DataW.insert []
def srt (ks : List Int) : List Int := intKeys (.map (datL ks))
def ascB : List Int → Bool
  | a :: b :: r => decide (a ≤ b) && ascB (b :: r)
  | _ => true
theorem ascB_pw : ∀ {l : List Int}, ascB l = true → l.Pairwise (· ≤ ·)
  | [], _ => .nil
  | [a], _ => by simp
  | a :: b :: r, h => by
    simp only [ascB, Bool.and_eq_true, decide_eq_true_eq] at h
    have ih := ascB_pw h.2
    refine .cons ?_ ih
    intro x hx
    rcases List.mem_cons.1 hx with rfl | hx
    · exact h.1
    · exact Int.le_trans h.1 (List.rel_of_pairwise_cons ih hx)
theorem sort_eq {ss s : List Int} (hp : ss.Perm s) (hs : ascB s = true) : ss.mergeSort (fun x y => decide (x ≤ y)) = s := by
  refine List.Perm.eq_of_pairwise (le := fun a b => a ≤ b) (fun a b _ _ h1 h2 => Int.le_antisymm h1 h2) ?_ (ascB_pw hs) ((List.mergeSort_perm ss _).trans hp)
  refine (List.pairwise_mergeSort (le := fun x y => decide (x ≤ y)) (fun a b c h1 h2 => ?_) (fun a b => ?_) ss).imp (fun h => of_decide_eq_true h)
  · simp only [decide_eq_true_eq] at *; omega
  · simp only [Bool.or_eq_true, decide_eq_true_eq]; omega
theorem keyL_ok {ρ : Ren} : ∀ {ks : List AV} {l : List Value} {ns : List Int}, VRs ρ ks l → keyL ks = some ns → l = ns.map (Value.int .i64) ∧ ∀ n ∈ ns, (Lit.int .i64 n).wf = true
  | _, _, _, .nil, h => by cases h; exact ⟨rfl, fun _ h => by cases h⟩
  | _, _, _, .cons a t, h => by
    unfold keyL at h
    split at h
    · rename_i e; cases e
    · rename_i n r e
      cases e
      cases a
      split at h
      · rename_i l2 e2
        split at h
        · rename_i hw
          cases h
          obtain ⟨h1, h2⟩ := keyL_ok t e2
          rw [h1]
          refine ⟨rfl, fun m hm => ?_⟩
          rcases List.mem_cons.1 hm with rfl | hm
          · exact hw
          · exact h2 m hm
        · cases h
      · cases h
    · cases h
def rdU : Value → Option (DataW Unit × List MemPlace) := fun _ => some (.nil, [])
theorem rd_int {x : MapEntry} {n : Int} (h : x.key = .int .i64 n) (hw : (Lit.int .i64 n).wf = true) : WideElems.rd Try.prog 3 rdU x = some (eN n) := by
  unfold WideElems.rd
  rw [h, keyOf_int_mk Try.underlying3 hw]
  rfl
theorem rg_map : ∀ {l : List MapEntry} {ns : List Int}, l.map (·.key) = ns.map (Value.int .i64) → (∀ n ∈ ns, (Lit.int .i64 n).wf = true) → l.map (WideElems.rg Try.prog 3 rdU) = ns.map eN
  | [], [], _, _ => rfl
  | x :: l, n :: ns, h, hw => by
    simp only [List.map_cons, List.cons.injEq] at h
    simp only [List.map_cons]
    rw [rg_map h.2 (fun m hm => hw m (List.mem_cons_of_mem _ hm))]
    unfold WideElems.rg
    rw [rd_int h.1 (hw n (by simp))]
    rfl
/-- slices.Sorted(maps.Keys(m)). -/
def sortedO : List AV → AH → Option (AV × AH)
  | [.func (.func 33) [] [.ptr bx 0]], σ => match σ.get bx with
    | .cells _ [.map b] => match σ.get b with
      | .mp es => match keyL (es.map (·.1)) with
        | some ns => if ascB (srt ns) = true ∧ es.length ≤ 1000 ∧ (datL ns).length ≤ 1000 then (match srt ns with
            | [] => some (.nilslice, σ)
            | s => some (.slice σ.nx 0 s.length none, σ.push (.opn 3 1 (s.map (AV.int .i64))))) else none
        | none => none
      | _ => none
    | _ => none
  | _, _ => none
theorem sorted_c {ρ : Ren} {σ : AH} {w : World} {bx b e : Nat} {es : List (AV × AV)} {ns : List Int} {rx : R} (hr : HR ρ σ w) (hρ : ρ bx = some rx) (hbx : σ.get bx = .cells e [.map b]) (hb : σ.get b = .mp es) (hns : keyL (es.map (·.1)) = some ns)
    (ha : ascB (srt ns) = true) (h1 : es.length ≤ 1000) (h2 : (datL ns).length ≤ 1000) :
    Calls Try.prog 23 #[.func (.func 33) #[] #[.pointer (some ⟨rx.blk, 0, none⟩)]] w fun ex w' => ∃ (v : Value), ex = .returned v ∧
      w'.ownsRow w.heap.size 3 1 v (srt ns).length ((srt ns).map encZ) ∧ (v = .slice none 0 0 ↔ srt ns = []) ∧ Below w.heap.size w w' := by
  obtain ⟨hsh, l, hblk, hl⟩ := by have := hr.obj _ _ hρ; rw [hbx] at this; exact this
  cases hl with
  | cons hm t =>
    cases t
    cases hm with
    | map hrb =>
      rename_i rb
      obtain ⟨ents, clock, hw, hks, hvs, hst⟩ := by have := hr.obj _ _ hrb; rw [hb] at this; exact this
      obtain ⟨hkl, hwf⟩ := keyL_ok hks hns
      have hlen : ents.size = es.length := by have := hks.length; simpa using this.symm
      have hrg : ents.toList.map (WideElems.rg Try.prog 3 rdU) = ns.map eN := rg_map hkl hwf
      have hown : w.ownsMap Try.prog 3 rdU rb.blk 1000 (.map (datL ns)) := by
        refine ⟨ents, clock, hw, ⟨by unfold maxLen; omega, hst, ?_⟩, by omega, ?_⟩
        · intro x hx
          have : x.key ∈ ents.toList.map (·.key) := List.mem_map_of_mem hx
          rw [hkl] at this
          obtain ⟨n, hn, he⟩ := List.mem_map.1 this
          exact ⟨_, rd_int he.symm (hwf n hn)⟩
        · rw [hrg]; rfl
      have hbw : rx.blk < w.heap.size := hr.lt _ _ hρ
      have hcell : w.cell? ⟨rx.blk, 0, none⟩ = some (.map (some rb.blk)) := by simp [World.cell?, hblk]
      have hseq : SeqGives Fence.wide 2 Try.prog 33 #[.pointer (some ⟨rx.blk, 0, none⟩)] encZ (fun ss => ss.Perm (intKeys (.map (datL ns)))) (Maps.size (.map (datL ns))) w :=
        AnyZI.keys_gives (ρ := Try.keysA_ren) { Try.keysA with } Fence.wide _ trivial rfl (by omega) rx.blk rb.blk 1000 (.map (datL ns)) w hbw hcell hown
      have hsz : Maps.size (.map (datL ns)) ≤ 1000 := h2
      have hsorts : ∀ m, AnyZI.SortsIn Try.prog Try.sortedA_ren Fence.wide m := fun m =>
        ⟨fun blk off cap ss W hH hblk hsz => callsIn_wide.2 (AnyM.slices_Sort_int Try.sortA blk off cap ss W hH hblk hsz), fun p cap W => callsIn_wide.2 (AnyM.slices_Sort_int_none Try.sortA p cap W)⟩
      have cS := AnyZI.sorted_in Try.sortedA Fence.wide 5 trivial trivial trivial trivial rfl (by omega) (hsorts _) (enters_of Try.func32 (by kernel_rfl) rfl) 33 #[.pointer (some ⟨rx.blk, 0, none⟩)] trivial (enters_of Try.func33 (by kernel_rfl) rfl) _ _ (by unfold maxLen; omega) (by omega) w hseq
      change CallsIn _ _ Try.prog 23 _ _ _ at cS
      refine Calls.mono ((callsIn_wide (n := 5)).1 cS) ?_
      rintro ex w' ⟨v, ss, rfl, hS, hrow, hnil, hbel⟩
      have hperm : ss.Perm (srt ns) := hS
      have hs := sort_eq hperm ha
      rw [hs] at hrow
      refine ⟨v, rfl, by rw [← hperm.length_eq]; exact hrow, hnil.trans ?_, hbel⟩
      constructor
      · intro q; subst q; exact List.Perm.eq_nil hperm.symm
      · intro q; rw [q] at hperm; exact List.Perm.eq_nil hperm
theorem ints_VRs (ρ : Ren) : ∀ s : List Int, VRs ρ (s.map (AV.int .i64)) (s.map encZ)
  | [] => .nil
  | _ :: s => .cons (.int _ _) (ints_VRs ρ s)
theorem sortedO_ok (xs : List AV) (σ : AH) (v : AV) (σ' : AH) (h : sortedO xs σ = some (v, σ')) : SC Try.prog 23 xs σ (fun u τ => u = v ∧ τ = σ') := by
  unfold sortedO at h
  split at h
  · rename_i bx
    split at h
    · rename_i e b hbx
      split at h
      · rename_i es hb
        split at h
        · rename_i ns hns
          split at h
          · rename_i hq
            obtain ⟨ha, h1, h2⟩ := hq
            have base : ∀ (ρ : Ren) (args' : List Value) (w : World), VRs ρ [.func (.func 33) [] [.ptr bx 0]] args' → HR ρ σ w →
                Calls Try.prog 23 ⟨args'⟩ w fun ex w' => ∃ (v : Value), ex = .returned v ∧ w'.ownsRow w.heap.size 3 1 v (srt ns).length ((srt ns).map encZ) ∧ (v = .slice none 0 0 ↔ srt ns = []) ∧ Below w.heap.size w w' := by
              intro ρ args' w hargs hr
              cases hargs with
              | cons hf t =>
                cases t
                cases hf with
                | func a1 a2 =>
                  cases a1
                  cases a2 with
                  | cons hp t2 =>
                    cases t2
                    cases hp with
                    | ptr hρ =>
                      rename_i rx
                      have hsh : rx.sh = 0 := by have := hr.obj _ _ hρ; rw [hbx] at this; exact this.1
                      have := sorted_c hr hρ hbx hb hns ha h1 h2
                      rw [hsh]
                      exact this
            cases hs : srt ns with
            | nil =>
              simp only [hs, Option.some.injEq, Prod.mk.injEq] at h
              obtain ⟨rfl, rfl⟩ := h
              refine SC_of_belowG fun ρ args' w hargs hr hg => ⟨.slice none 0 0, .nilslice, ?_⟩
              refine Calls.mono (base ρ args' w hargs hr) ?_
              rintro ex w' ⟨v, rfl, _, hnil, hbel⟩
              rw [hnil.2 hs]
              exact ⟨rfl, hbel⟩
            | cons s0 sr =>
              simp only [hs, Option.some.injEq, Prod.mk.injEq] at h
              obtain ⟨rfl, rfl⟩ := h
              refine SC_of_new fun ρ args' w hargs hr hg => ?_
              refine Calls.mono (base ρ args' w hargs hr) ?_
              rintro ex w' ⟨v, rfl, hrow, hnil, hbel⟩
              rw [hs] at hrow
              rcases hrow.2 with ⟨rfl, hz⟩ | ⟨g, cap, cur, rfl, hbase, hgb, r1, r2, r3, r4⟩
              · simp at hz
              · have hcur : cur.toList = (s0 :: sr).map encZ ++ cur.toList.drop (s0 :: sr).length := by
                  rw [← r4, Nat.mul_one, List.take_append_drop]
                refine ⟨.slice (some ⟨g, 0, none⟩) (s0 :: sr).length cap, ⟨g, 0, 1, cap⟩, rfl, hbel, hbase, (Array.getElem?_eq_some_iff.1 hgb).1, ?_, ?_⟩
                · refine ⟨rfl, rfl, by decide, (s0 :: sr).map encZ, cur.toList.drop (s0 :: sr).length, ?_, ints_VRs _ _, ?_⟩
                  · rw [← hcur]
                    exact hgb
                  · rw [← hcur]
                    simpa using r3
                · have := VR.sliceo (ρ := ρ.push σ.nx ⟨g, 0, 1, cap⟩) (b := σ.nx) (o := 0) (n := (s0 :: sr).length) (i := 0) (Ren.push_same _ _ _) rfl (by simp) (by simp) (by simpa using r1)
                  simpa using this
          · cases h
        · cases h
      · cases h
    · cases h
  · cases h
end Go.Proofs.Yteneafgmcmgahaa.V
