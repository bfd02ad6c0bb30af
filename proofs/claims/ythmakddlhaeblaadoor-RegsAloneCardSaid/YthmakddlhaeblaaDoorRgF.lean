/- regs: swapped twice is nothing; R goes round in 128; a condition and its opposite. -/
import Derived.Test.YthmakddlhaeblaaDoorRgX
namespace Go.Proofs.YthmakddlhaeblaaDoor.V
open Go Go.Proofs
set_option maxRecDepth 100000
set_option maxHeartbeats 4000000
set_option linter.unusedSimpArgs false
set_option linter.unusedVariables false
theorem sc_of_vcH {X : Cx} {f : Nat} (hX : CxOk X) (hd : okFunsX X.P [f] = true) (hl : ∀ p ∈ loopsOf (bodyOf X.P f) 0, ∀ L, X.lps p.1 = some L → LOk X.P p.2 L) {xs : List AV} {σ : AH} {s : Plan} {K : AV → AH → Prop} {A : Prop} (e : funP X f xs σ s (fun v σ _ => K v σ) = A) (h : A) : SC X.P f xs σ K :=
  (funP_sound hX hd hl xs σ s _ (e.mpr h)).mono (fun v σ ⟨s, q⟩ => q)
theorem XR2_lps : XR2.lps = lookL [] := rfl
theorem rs_loop {a b c d e f g h i r ix iy sp pc wz af bc de hl im : Int} {p q u v : Bool} {z : Int} (hp : rsPre r) :
    WL Tryd.prog 0 (loopAt Tryd.prog 3 1) (fun ex fr σ => ex = .exit 2 ∧ fr = (rsT a b c d e f g h i r ix iy sp pc wz af bc de hl im p q u v z r 128).1 ∧ σ = (rsT a b c d e f g h i r ix iy sp pc wz af bc de hl im p q u v z r 128).2) (rsT a b c d e f g h i r ix iy sp pc wz af bc de hl im p q u v z r 0).1 (rsT a b c d e f g h i r ix iy sp pc wz af bc de hl im p q u v z r 0).2 := by
  obtain ⟨h1, h2⟩ := hp
  have e0 : rsN r 0 = r := by unfold rsN; omega
  have key := loop_fam (X := XR2) XR2_ok (c := loopAt Tryd.prog 3 1) (by kernel_rfl) XR2_lps [1, 2, 6, 7] (ι := {m : Int // 0 ≤ m ∧ m ≤ 128}) (fun k => rsT a b c d e f g h i r ix iy sp pc wz af bc de hl im p q u v z (rsN r k.1) k.1) (fun k => (128 - k.1).toNat)
    (fun ex fr σ => ex = .exit 2 ∧ fr = (rsT a b c d e f g h i r ix iy sp pc wz af bc de hl im p q u v z r 128).1 ∧ σ = (rsT a b c d e f g h i r ix iy sp pc wz af bc de hl im p q u v z r 128).2) (fun _ => rsR_scr)
    (fun k Nn Q => rsR_VC a b c d e f g h i r ix iy sp pc wz af bc de hl im p q u v z (rsN r k.1) k.1 Nn Q ()) (fun k Nn Q => rsR_vc a b c d e f g h i r ix iy sp pc wz af bc de hl im p q u v z (rsN r k.1) k.1 Nn Q ()) ?_ ⟨0, by omega, by omega⟩
  · simp only [e0] at key
    exact key
  · rintro ⟨m, hm1, hm2⟩
    show rsR_VC a b c d e f g h i r ix iy sp pc wz af bc de hl im p q u v z (rsN r m) m _ _ ()
    have hw : IntKind.i64.wrap (m + 1) = m + 1 := wrap_in (by omega) (by omega)
    have hr : rfN (rsN r m) = rsN r (m + 1) := by
      rw [rf_val (by unfold rsN; omega) (by unfold rsN; omega)]
      unfold rsN
      omega
    have hq : ∀ y, 0 ≤ y → y < 256 → IntKind.u8.wrap (y.tdiv 128) = y / 128 := by
      intro y y1 y2
      rw [Int.tdiv_eq_ediv_of_nonneg y1, IntKind.wrap_u8]
      omega
    have hs : IntKind.u8.wrap ((rfN (rsN r m)).tdiv 128) = IntKind.u8.wrap (r.tdiv 128) := by
      rw [hr, hq _ (by unfold rsN; omega) (by unfold rsN; omega), hq _ h1 h2]
      unfold rsN
      omega
    unfold rsR_VC
    refine ⟨fun _ => ⟨fun hh => ?_, fun _ => ?_⟩, fun hh => ?_⟩
    · rw [hs] at hh
      simp at hh
    · rename_i hlt _
      have hlt := of_decide_eq_true hlt
      rw [hw, hr]
      refine ⟨⟨m + 1, by omega, by omega⟩, [(0, 0), (1, 1)], ?_, ⟨rfl, ⟨⟨rfl, .inr ⟨rfl, rfl⟩⟩, ⟨rfl, .inr ⟨rfl, rfl⟩⟩, trivial⟩, rfl, ⟨rfl, rfl, rfl, rfl, trivial⟩⟩⟩
      show (128 - (m + 1)).toNat < (128 - m).toNat
      omega
    · have hge : ¬ m < 128 := of_decide_eq_false hh
      obtain rfl : m = 128 := by omega
      have e128 : rsN r 128 = r := by unfold rsN; omega
      rw [e128]
      exact ⟨[(0, 0), (1, 1)], (rsT a b c d e f g h i r ix iy sp pc wz af bc de hl im p q u v z r 128).1, (rsT a b c d e f g h i r ix iy sp pc wz af bc de hl im p q u v z r 128).2, ⟨rfl, ⟨⟨rfl, .inr ⟨rfl, rfl⟩⟩, ⟨rfl, .inr ⟨rfl, rfl⟩⟩, trivial⟩, rfl, ⟨rfl, rfl, rfl, rfl, trivial⟩⟩, rfl, rfl, rfl⟩
theorem LRs_ok (a b c d e f g h i r ix iy sp pc wz af bc de hl im : Int) (p q u v : Bool) (z : Int) : LOk Tryd.prog (loopAt Tryd.prog 3 1) (LRs a b c d e f g h i r ix iy sp pc wz af bc de hl im p q u v z) := by
  rintro n0 fr σ s Q ⟨h0, hf, hp, hq⟩
  cases (h0 : n0 = 0)
  intro E a w hE hs
  refine (WL.less (rs_loop hp) ?_) E a w hE (Fits.refines hf E hE a w hs)
  rintro ex fr σ ⟨rfl, rfl, rfl⟩
  exact ⟨_, _, fun E _ a w h => h, s, hq⟩
theorem rs_loops : loopsOf (bodyOf Tryd.prog 3) 0 = [(0, loopAt Tryd.prog 3 0), (2, loopAt Tryd.prog 3 1), (4, loopAt Tryd.prog 3 2)] := by kernel_rfl
theorem bq (x : Bool) : ((x == false) == (x == true)) = false := by cases x <;> rfl
theorem rs_sc {a b c d e f g h i r ix iy sp pc wz af bc de hl im : Int} {p q u v : Bool} {z : Int} (aw : 0 ≤ a ∧ a < 256) (bw : 0 ≤ b ∧ b < 256) (cw : 0 ≤ c ∧ c < 256) (dw : 0 ≤ d ∧ d < 256) (ew : 0 ≤ e ∧ e < 256) (fw : 0 ≤ f ∧ f < 256) (gw : 0 ≤ g ∧ g < 256) (hw : 0 ≤ h ∧ h < 256) (iw : 0 ≤ i ∧ i < 256) (rw : 0 ≤ r ∧ r < 256) (ixw : 0 ≤ ix ∧ ix < 65536) (iyw : 0 ≤ iy ∧ iy < 65536) (spw : 0 ≤ sp ∧ sp < 65536) (pcw : 0 ≤ pc ∧ pc < 65536) (wzw : 0 ≤ wz ∧ wz < 65536) (afw : 0 ≤ af ∧ af < 65536) (bcw : 0 ≤ bc ∧ bc < 65536) (dew : 0 ≤ de ∧ de < 65536) (hlw : 0 ≤ hl ∧ hl < 65536) :
    SC Tryd.prog 3 [.agg [.int .u8 a, .int .u8 b, .int .u8 c, .int .u8 d, .int .u8 e, .int .u8 f, .int .u8 g, .int .u8 h, .int .u8 i, .int .u8 r, .int .u16 ix, .int .u16 iy, .int .u16 sp, .int .u16 pc, .int .u16 wz, .int .u16 af, .int .u16 bc, .int .u16 de, .int .u16 hl, .bool p, .bool q, .int .i64 im, .bool u, .bool v], .int .u8 z] h0 (fun x _ => x = .bool true) := by
  show SC (XRs a b c d e f g h i r ix iy sp pc wz af bc de hl im p q u v z).P 3 _ h0 (fun x _ => x = .bool true)
  refine sc_of_vcH (X := XRs a b c d e f g h i r ix iy sp pc wz af bc de hl im p q u v z) (XRs_ok a b c d e f g h i r ix iy sp pc wz af bc de hl im p q u v z) (f := 3) (by kernel_rfl) ?_ (K := fun x _ => x = .bool true) (rs_vc a b c d e f g h i r ix iy sp pc wz af bc de hl im p q u v z (fun x => x = .bool true)) ?_
  · intro x hx l hlq
    rw [show (XRs a b c d e f g h i r ix iy sp pc wz af bc de hl im p q u v z).P = Tryd.prog from rfl, rs_loops] at hx
    simp only [List.mem_cons, List.not_mem_nil, or_false] at hx
    rcases hx with rfl | rfl | rfl
    · cases hlq
    · have : l = LRs a b c d e f g h i r ix iy sp pc wz af bc de hl im p q u v z := (Option.some.inj hlq).symm
      subst this
      exact LRs_ok a b c d e f g h i r ix iy sp pc wz af bc de hl im p q u v z
    · cases hlq
  · have k1 := hi_pr aw.1 aw.2 bw.1 bw.2
    have k2 := lo_pr aw.1 aw.2 bw.1 bw.2
    have k3 := hi_pr cw.1 cw.2 dw.1 dw.2
    have k4 := lo_pr cw.1 cw.2 dw.1 dw.2
    have k5 := hi_pr ew.1 ew.2 fw.1 fw.2
    have k6 := lo_pr ew.1 ew.2 fw.1 fw.2
    have k7 := hi_pr gw.1 gw.2 hw.1 hw.2
    have k8 := lo_pr gw.1 gw.2 hw.1 hw.2
    have k9 := pr_hi_lo afw.1 afw.2
    have k10 := pr_hi_lo bcw.1 bcw.2
    have k11 := pr_hi_lo dew.1 dew.2
    have k12 := pr_hi_lo hlw.1 hlw.2
    unfold rs_VC
    refine ⟨fun hh => ?_, fun _ => ⟨fun hh => ?_, fun _ => ⟨fun hh => ?_, fun _ => ⟨rfl, ⟨rfl, ⟨⟨rfl, .inr ⟨rfl, rfl⟩⟩, ⟨rfl, .inr ⟨rfl, rfl⟩⟩, trivial⟩, rfl, ⟨rfl, rfl, rfl, rfl, trivial⟩⟩, rw, ⟨fun hh => ?_, fun _ => ⟨fun hh => ?_, fun _ => ⟨fun hh => ?_, fun _ => ⟨fun hh => ?_, fun _ => ?_⟩⟩⟩⟩⟩⟩⟩⟩
    · simp [k1, k2, k9] at hh
    · simp [k3, k4, k5, k6, k7, k8, k10, k11, k12] at hh
    · simp at hh
    · rw [bq] at hh; cases hh
    · rw [bq] at hh; cases hh
    · rw [bq] at hh; cases hh
    · rw [bq] at hh; cases hh
    · simp
end Go.Proofs.YthmakddlhaeblaaDoor.V
