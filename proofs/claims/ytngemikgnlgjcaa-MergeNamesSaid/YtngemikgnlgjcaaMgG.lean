/- merge: the chapter's names (part 7): Alone's answers, told to the reckoning; the law. -/
import Derived.Test.YtngemikgnlgjcaaMgF
import Derived.Test.YtngemikgnlgjcaaMgA
namespace Go.Proofs.Ytngemikgnlgjcaa.V
open Go Go.Proofs Go.RowKit Go.Shelf
set_option maxRecDepth 100000
set_option linter.unusedSimpArgs false
set_option linter.unusedVariables false
theorem aloneO_inv {xs : List AV} {σ σ' : AH} {v : AV} (h : aloneO xs σ = some (v, σ')) :
    ∃ b, σ.get b = .cells 23 evL ∧ σ' = σ ∧ ((xs = [.slice b 0 2 (some 2), .int .i64 1] ∧ v = .bool true) ∨ (xs = [.slice b 0 2 (some 2), .int .i64 3] ∧ v = .bool false)) := by
  unfold aloneO at h
  split at h
  · rename_i b n
    split at h
    · rename_i hb
      split at h
      · rename_i hn; subst hn; cases h; exact ⟨b, hb, rfl, .inl ⟨rfl, rfl⟩⟩
      · split at h
        · rename_i hn; subst hn; cases h; exact ⟨b, hb, rfl, .inr ⟨rfl, rfl⟩⟩
        · cases h
    · cases h
  · cases h
theorem evL_inv {ρ : Ren} {l : List Value} (h : VRs ρ evL l) : l = evV.toList := by
  unfold evL at h
  cases h with | cons x0 h => ?_
  cases h with | cons x1 h => ?_
  cases h with | cons x2 h => ?_
  cases h with | cons x3 h => ?_
  cases h with | cons x4 h => ?_
  cases h with | cons x5 h => ?_
  cases h with | cons x6 h => ?_
  cases h with | cons x7 h => ?_
  cases h with | cons x8 h => ?_
  cases h with | cons x9 h => ?_
  cases h with | cons x10 h => ?_
  cases h with | cons x11 h => ?_
  cases h
  cases x0; cases x1; cases x2; cases x3; cases x4; cases x5; cases x6; cases x7; cases x8; cases x9; cases x10; cases x11
  rfl
theorem alone_sc {σ : AH} {b : Nat} {c : Int} {t : Bool} (hb : σ.get b = .cells 23 evL) (h : (c = 1 ∧ t = true) ∨ (c = 3 ∧ t = false)) :
    SC Try.prog 8 [.slice b 0 2 (some 2), .int .i64 c] σ (fun u τ => u = .bool t ∧ τ = σ) := by
  refine SC_of_below fun ρ args' w ha hr => ⟨.bool t, .bool t, ?_⟩
  cases ha with | cons a0 r0 => ?_
  cases r0 with | cons a1 r1 => ?_
  cases r1
  cases a1
  cases a0 with | slice hbr => ?_
  rename_i r
  have o2 := hr.obj b r hbr
  rw [hb] at o2
  obtain ⟨hsh, l, hl, hvl⟩ := o2
  have el := evL_inv hvl
  subst el
  rw [hsh]
  have hB : w.heap[r.blk]? = some (.cells evV 23 (0, 0)) := hl
  rcases h with ⟨rfl, rfl⟩ | ⟨rfl, rfl⟩
  · exact callsIn_wide.1 (alone1 9 r.blk w (by omega) hB)
  · exact callsIn_wide.1 (alone3 9 r.blk w (by omega) hB)
theorem orcAl_ok : OrcOk Try.prog orcAl := by
  intro f o hf xs σ v σ' h
  unfold orcAl at hf
  split at hf
  · rename_i e
    cases hf
    have e8 : f = 8 := Nat.eq_of_beq_eq_true e
    subst e8
    obtain ⟨b, hb, rfl, ⟨rfl, rfl⟩ | ⟨rfl, rfl⟩⟩ := aloneO_inv h
    · exact alone_sc hb (.inl ⟨rfl, rfl⟩)
    · exact alone_sc hb (.inr ⟨rfl, rfl⟩)
  · cases hf
theorem mnames_sc : SC Try.prog 3 [] h0 (fun u _ => u = .bool true) := mnames_of orcAl_ok
end Go.Proofs.Ytngemikgnlgjcaa.V
