/- regs: the law of what is put (part 2): contexts. -/
import Derived.Test.YthmakddlhaeblaaDoorRgM
namespace Go.Proofs.YthmakddlhaeblaaDoor.V
open Go Go.Proofs
set_option maxRecDepth 100000
set_option linter.unusedSimpArgs false
set_option linter.unusedVariables false
theorem pk_tr (b : Int) : TrOk Tryd.prog 9 (pureG (pkG b)) := by
  refine pureG_ok ?_
  intro xs v h
  unfold pkG at h
  split at h
  · simp only [Option.some.injEq, Prod.mk.injEq, decide_eq_true_eq] at h
    obtain ⟨hp, rfl⟩ := h
    rename_i n
    refine ⟨rfl, rfl, sc_of_vc XR0_ok (by kernel_rfl) (pk8_vc n _) ?_⟩
    have e := pk_md (n := n) (m := 8) (by decide) (by decide)
    unfold pk8_VC
    by_cases hq : n.tmod 8 < 0
    · rw [if_pos hq] at e
      exact ⟨fun _ => by rw [e, hp], fun q => absurd hq (of_decide_eq_false q)⟩
    · rw [if_neg hq] at e
      exact ⟨fun q => absurd (of_decide_eq_true q) hq, fun _ => by rw [e, hp]⟩
  · simp only [Option.some.injEq, Prod.mk.injEq, decide_eq_true_eq] at h
    obtain ⟨hp, rfl⟩ := h
    rename_i n
    refine ⟨rfl, rfl, sc_of_vc XR0_ok (by kernel_rfl) (pk4_vc n _) ?_⟩
    have e := pk_md (n := n) (m := 4) (by decide) (by decide)
    rw [md_48, hp] at e
    unfold pk4_VC
    by_cases hq : n.tmod 4 < 0
    · rw [if_pos hq] at e
      exact ⟨fun _ => by rw [e], fun q => absurd hq (of_decide_eq_false q)⟩
    · rw [if_neg hq] at e
      exact ⟨fun q => absurd (of_decide_eq_true q) hq, fun _ => by rw [e]⟩
  · cases h
def purR5 : Pur := [(5, lvF), (11, getF), (10, putF), (13, pairF), (12, putPF)]
theorem purR5_ok : PurOk Tryd.prog purR5 := PurOk.cons lv_tr <| PurOk.cons get_tr <| PurOk.cons put_tr <| PurOk.cons pair_tr <| PurOk.cons putP_tr PurOk.nil
def trsR5 (b : Int) : List (Nat × Tr1) := (9, pureG (pkG b)) :: purR5.map fun p => (p.1, pureT p.2)
theorem trsR5_ok (b : Int) : TrsOk Tryd.prog (lookT (trsR5 b)) := TrsOk.cons (pk_tr b) <| TrsOk.cons lv_tr <| TrsOk.cons get_tr <| TrsOk.cons put_tr <| TrsOk.cons pair_tr <| TrsOk.cons putP_tr TrsOk.nil
noncomputable def XL (b : Int) : Cx := ⟨Tryd.prog, lookT (trsR5 b), purO purR5, purR5.map (·.1), 20, lookL []⟩
theorem XL_ok (b : Int) : CxOk (XL b) := ⟨trsR5_ok b, purO_ok purR5_ok, mixedrg⟩
theorem sc_of_vcXL {b : Int} {f : Nat} (hd : okFunsX Tryd.prog [f] = true) {xs : List AV} {s : Plan} {K : AV → Prop} {A : Prop} (e : funP (XL b) f xs h0 s (fun v _ _ => K v) = A) (h : A) : SC Tryd.prog f xs h0 (fun u _ => K u) :=
  (funP_sound (XL_ok b) hd (fun p _ L hL => by cases hL) xs h0 s _ (e.mpr h)).mono (fun v σ ⟨s, q⟩ => q)
end Go.Proofs.YthmakddlhaeblaaDoor.V
