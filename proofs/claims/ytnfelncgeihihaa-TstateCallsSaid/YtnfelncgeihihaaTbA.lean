/- tstate: times, spots, bytes (part 1): what is known ahead. -/
import Derived.Test.YtnfelncgeihihaaCoD
import Derived.Test.YtnfelncgeihihaaV28
namespace Go.Proofs.Ytnfelncgeihihaa.V
open Go Go.Proofs
set_option maxRecDepth 100000
set_option linter.unusedSimpArgs false
set_option linter.unusedVariables false
theorem spotT_tr3 : TrOk Try.prog 21 (pureT spot3F) := pureT_congr (tr_of_good good_lives rfl) (fun xs v h => (spot3_some xs v h).2)
def purTb : Pur := [(17, livesF), (18, checkF), (19, lengthF), (21, spot3F), (67, mayF)]
theorem purTb_ok : PurOk Try.prog purTb :=
  PurOk.cons (tr_of_good good_lives rfl) <| PurOk.cons (tr_of_good good_lives rfl) <| PurOk.cons (tr_of_good good_lives rfl) <| PurOk.cons spotT_tr3 <| PurOk.cons (tr_of_good good_lives rfl) PurOk.nil
/-- As cxP, with fewer rounds. -/
noncomputable def cxK (P : Program) (l : Pur) (ok : List Nat) (k : Nat) : Cx := ⟨P, inl P (purO l) (l.map (·.1)) k (purT l) ok 6, purO l, l.map (·.1), k, lookL []⟩
theorem cxK_ok {P : Program} {l : Pur} {ok : List Nat} {k : Nat} (hmix : P.follows .mixedOrders = true) (h : PurOk P l) (hok : okFunsX P ok = true) : CxOk (cxK P l ok k) := ⟨inl_ok (purO_ok h) hmix (purT_ok h) hok 6, purO_ok h, hmix⟩
noncomputable def XTb : Cx := cxP Try.prog purTb []
theorem XTb_ok : CxOk (cxP Try.prog purTb []) := cxP_ok mixed purTb_ok rfl
def okNu : List Nat := [84]
theorem okNu_ok : okFunsX Try.prog okNu = true := by kernel_rfl
noncomputable def XNu : Cx := cxK Try.prog [] okNu 3
theorem XNu_ok : CxOk (cxK Try.prog [] okNu 3) := cxK_ok mixed PurOk.nil okNu_ok
def okRd : List Nat := [85, 86, 87, 88]
theorem okRd_ok : okFunsX Try.prog okRd = true := by kernel_rfl
noncomputable def XRd : Cx := cxK Try.prog [] okRd 3
theorem XRd_ok : CxOk (cxK Try.prog [] okRd 3) := cxK_ok mixed PurOk.nil okRd_ok
theorem sc_of_vcT {X : Cx} {f : Nat} (hX : CxOk X) (hd : okFunsX X.P [f] = true) (hl : ∀ p ∈ loopsOf (bodyOf X.P f) 0, ∀ L, X.lps p.1 = some L → LOk X.P p.2 L) {xs : List AV} {σ : AH} {s : Plan} {K : AV → AH → Prop} {A : Prop} (e : funP X f xs σ s (fun v σ _ => K v σ) = A) (h : A) : SC X.P f xs σ K :=
  (funP_sound hX hd hl xs σ s _ (e.mpr h)).mono (fun v σ ⟨s, q⟩ => q)
end Go.Proofs.Ytnfelncgeihihaa.V
