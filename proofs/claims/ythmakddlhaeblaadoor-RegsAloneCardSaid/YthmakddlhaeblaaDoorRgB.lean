/- regs: the chapter's examples: bits.TrailingZeros (her table is read) and strings.Join (the shelf's contract), as this library has them. -/
import Derived.Test.YthmakddlhaeblaaDoorRgA
import Derived.Test.YthmakddlhaeblaaDoorRgS
import Derived.WalkKit
import Derived.Below
namespace Go.Proofs.YthmakddlhaeblaaDoor.V
open Go Go.Proofs Go.RowKit Go.Shelf
set_option maxRecDepth 100000
set_option linter.unusedSimpArgs false
set_option linter.unusedVariables false
/-- A call that hands back a plain value and leaves below what was there as it was. -/
theorem SC_of_belowG {P : Program} {f : Nat} {args : List AV} {σ : AH} {v : AV} (h : ∀ (ρ : Ren) (args' : List Value) (w : World), VRs ρ args args' → HR ρ σ w → GOK (Wr ρ σ) w → ∃ v', VR ρ v v' ∧ Calls P f ⟨args'⟩ w (fun e w' => e = .returned v' ∧ Below w.heap.size w w')) : SC P f args σ (fun u τ => u = v ∧ τ = σ) := by
  intro ρ args' w ha hr hg
  obtain ⟨v', hv, hc⟩ := h ρ args' w ha hr hg
  refine Calls.mono hc ?_
  rintro e w' ⟨rfl, hb⟩
  refine ⟨v, v', ρ, σ, rfl, ⟨rfl, rfl⟩, hv, ⟨hr.dom, fun b r hb' => Nat.lt_of_lt_of_le (hr.lt b r hb') hb.size, fun b r hb' => OR.of_heap (hb.block _ (hr.lt b r hb')) (hr.obj b r hb'), hr.inj⟩, ?_⟩
  exact ⟨fun _ _ => rfl, Nat.le_refl _, hb.os, hb.tape, hb.output, hb.size, fun c hc _ => hb.block c hc, fun c hc => .inl hc⟩
theorem strsOf_ok {ρ : Ren} : ∀ {cs : List AV} {l : List Value} {xs : List ByteArray}, VRs ρ cs l → strsOf cs = some xs → l = xs.map Value.string
  | _, _, _, .nil, h => by cases h; rfl
  | _, _, _, .cons a t, h => by
    cases a with
    | str s =>
      simp only [strsOf] at h
      split at h
      · rename_i l' e
        cases h
        rw [strsOf_ok t e]
        rfl
      · cases h
    | _ => cases h
theorem joinO_ok (xs : List AV) (σ : AH) (v : AV) (σ' : AH) (h : joinO xs σ = some (v, σ')) : SC Tryd.prog 24 xs σ (fun u τ => u = v ∧ τ = σ') := by
  unfold joinO at h
  split at h
  · rename_i b n sep
    split at h
    · rename_i e cs hb
      split at h
      · rename_i xs hxs
        split at h
        · rename_i hq
          obtain ⟨h1, h2, h3, h4⟩ := hq
          cases h
          refine SC_of_belowG fun ρ args' w ha hr _ => ⟨_, .str _, ?_⟩
          cases ha with
          | cons x t =>
            cases t with
            | cons y t2 =>
              cases t2
              cases y
              cases x with
              | slicee => omega
              | sliceo hρ hs ho hn hc =>
                rename_i r i
                obtain ⟨_, hz, _, l, more, hblk, hl, hlen⟩ := by have := hr.obj _ _ hρ; rw [hb] at this; exact this
                have hi : i = 0 := by rw [hz] at ho; omega
                subst hi
                have hlx := strsOf_ok hl hxs
                subst h2
                refine Tryd.strings_Join r.blk 0 (r.cap - 0) xs sep w ?_ (hr.lt _ _ hρ) h3 (by omega) h4
                intro j x hj
                have : w.cell? ⟨r.blk, 0 + j, none⟩ = (l ++ more)[0 + j]? := by simp [World.cell?, hblk]
                rw [this, Nat.zero_add, hlx, List.getElem?_append_left (by have := (List.getElem?_eq_some_iff.1 hj).1; simpa using this), List.getElem?_map, hj]
                rfl
        · cases h
      · cases h
    · cases h
  · cases h
theorem tz_c (w : World) (h : w.cell? ⟨3, 15, none⟩ = some (.int .u8 4)) (hs : 3 < w.heap.size) : Calls Tryd.prog 48 #[.int .u64 16] w fun e w' => e = .returned (.int .i64 4) ∧ w' = w := by
  have k1 : IntKind.u64.wrap (-16) = 18446744073709551600 := by decide
  have k2 : bits .and .u64 16 18446744073709551600 = 16 := by decide
  have k3 : IntKind.u64.wrap 4573923408821661840 = 4573923408821661840 := by decide
  go_enter Tryd.func48, Tryd.ntmps48
  go_wp2
  refine bodyPost_ret (results_tmp (t := 2) rfl _ _ _) rfl ?_
  exact ⟨rfl, rfl⟩
theorem tz0_c (w : World) (h : w.cell? ⟨3, 15, none⟩ = some (.int .u8 4)) (hs : 3 < w.heap.size) : Calls Tryd.prog 44 #[.int .u64 16] w fun e w' => e = .returned (.int .i64 4) ∧ w' = w := by
  go_enter Tryd.func44, Tryd.ntmps44
  go_wp2_with (first | (go_at_call 48; refine (tz_c _ h hs).mono ?_; rintro e W1 ⟨rfl, rfl⟩) | go_in)
  refine bodyPost_ret (results_tmp (t := 2) rfl _ _ _) rfl ?_
  exact ⟨rfl, rfl⟩
theorem tzO_ok (xs : List AV) (σ : AH) (v : AV) (σ' : AH) (h : tzO xs σ = some (v, σ')) : SC Tryd.prog 44 xs σ (fun u τ => u = v ∧ τ = σ') := by
  unfold tzO at h
  split at h
  · cases h
    refine SC_of_belowG fun ρ args' w ha hr hg => ⟨_, .int _ _, ?_⟩
    cases ha with
    | cons x t =>
      cases t
      cases x
      obtain ⟨_, g2, g3⟩ := hg (⟨3, 15, none⟩, .int .u8 4) (by simp [GB])
      refine (tz0_c w g3 g2).mono ?_
      rintro e w' ⟨rfl, rfl⟩
      exact ⟨rfl, Below.refl _ _⟩
  · cases h
theorem orcRg_ok : OrcOk Tryd.prog orcRg := by
  intro f o hf xs σ v σ' h
  unfold orcRg at hf
  split at hf
  · rename_i e
    cases hf
    obtain rfl := Nat.eq_of_beq_eq_true e
    exact joinO_ok xs σ v σ' h
  · split at hf
    · rename_i e
      cases hf
      obtain rfl := Nat.eq_of_beq_eq_true e
      exact tzO_ok xs σ v σ' h
    · cases hf
/-- The chapter's examples. -/
theorem lives_sc : SC Tryd.prog 5 [] h0 (fun u _ => u = .bool true) := by
  have h := lives_run
  cases hr : xF Tryd.prog orcRg qtRg okRg 60 5 [] h0 with
  | none => rw [hr] at h; simp [answers] at h
  | some r =>
    obtain ⟨v, τ⟩ := r
    refine (xF_sound orcRg_ok mixedrg okRg_ok 60 5 [] h0 v τ hr).mono ?_
    rintro u τ' ⟨rfl, rfl⟩
    rw [hr] at h
    unfold answers at h
    split at h
    · rename_i b τ'' e
      cases e
      simpa using h
    · cases h
end Go.Proofs.YthmakddlhaeblaaDoor.V
