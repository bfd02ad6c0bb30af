/- link: what is sent and taken (part 10): what All and Msgs answer, and the law's tail. -/
import Derived.Test.YtfamikdibjhnpaaLkU
import Derived.Test.YtfamikdibjhnpaaLkS
namespace Go.Proofs.Ytfamikdibjhnpaa.V
open Go Go.Proofs
set_option maxRecDepth 100000
set_option maxHeartbeats 4000000
set_option linter.unusedSimpArgs false
set_option linter.unusedVariables false
theorem lkOne {k j : Nat} {L L' : LTr} (h : lookL [(k, L)] j = some L') : j = k ∧ L' = L := by
  simp only [lookL] at h
  split at h
  · rename_i hk
    exact ⟨(Nat.eq_of_beq_eq_true hk).symm, (Option.some.inj h).symm⟩
  · cases h
theorem all_loops : loopsOf (bodyOf Try.prog 13) 0 = [(0, AllL)] := by kernel_rfl
theorem msgs_loops : loopsOf (bodyOf Try.prog 12) 0 = [(0, MsgsL)] := by kernel_rfl
theorem all0_sc {n : Nat} {fr mk : Int} {en : Bool} {rc : List AV} : SC Try.prog 13 [.ptr 1 0] (aH0 n fr 0 mk en rc) (fun x _ => x = .nilslice) := by
  refine (funP_sound (XAl_ok []) (by kernel_rfl) (fun p _ L hL => by cases hL) _ _ fa0_scr _ ((fa0_vc n fr mk en rc (fun x _ => x = .nilslice)).mpr ⟨fun _ => rfl, fun _ => rfl⟩)).mono (fun v σ ⟨s, q⟩ => q)
theorem all1_sc {n : Nat} {fr mk : Int} {en : Bool} {rc : List AV} {c : Nat} (hk : lnOk n n fr (c : Int) rc) (hc : 0 < c) : SC Try.prog 13 [.ptr 1 0] (aH0 n fr (c : Int) mk en rc) (fun x τ => x = .slice 2 0 c none ∧ τ.get 2 = .opn 33 7 (allR n fr rc c)) := by
  refine (funP_sound (XAl_ok [(0, LAll n fr mk en rc c)]) (by kernel_rfl) ?_ _ _ fa1_scr _ ((fa1_vc n fr mk en rc c (fun x τ => x = .slice 2 0 c none ∧ τ.get 2 = .opn 33 7 (allR n fr rc c))).mpr ?_)).mono (fun v σ ⟨s, q⟩ => q)
  · intro p hp' l hl
    obtain ⟨h0, rfl⟩ := lkOne hl
    rw [show (XAl [(0, LAll n fr mk en rc c)]).P = Try.prog from rfl, all_loops] at hp'
    simp only [List.mem_cons, List.not_mem_nil, or_false] at hp'
    subst hp'
    exact LAll_ok n fr mk en rc c
  · have hn : (!decide ((n : Int) > 0)) = false := by have := hk.2.1; simpa using this
    unfold fa1_VC
    refine bothF hn ⟨rfl, ⟨rfl, ⟨.inr ⟨hk.2.2.2.2.2.2.2.2.1, rfl⟩, ?_, trivial⟩, rfl, ⟨rfl, rfl, rfl, rfl, trivial⟩⟩, ⟨hk, hc⟩, rfl, rfl⟩
    exact ObjRen.link rfl
theorem msN_sc : SC Try.prog 12 [.nilslice, .nilslice] h0 (fun x _ => x = .bool true) :=
  (funP_sound (XAl_ok []) (by kernel_rfl) (fun p _ L hL => by cases hL) _ _ fmN_scr _ ((fmN_vc true (fun x _ => x = .bool true)).mpr rfl)).mono (fun v σ ⟨s, q⟩ => q)
theorem msE_sc {o : Nat} {lb : List AV} : SC Try.prog 12 [.nilslice, .slice 0 o 0 none] ⟨1, [(0, .ro lb)]⟩ (fun x _ => x = .bool true) :=
  (funP_sound (XAl_ok []) (by kernel_rfl) (fun p _ L hL => by cases hL) _ _ fmE_scr _ ((fmE_vc o lb (fun x _ => x = .bool true)).mpr rfl)).mono (fun v σ ⟨s, q⟩ => q)
theorem msS_sc {la lb : List AV} {m off : Nat} (h : msOk la lb m m off) : SC Try.prog 12 [.slice 0 0 m none, .slice 1 off m none] (mHp la lb) (fun x _ => x = .bool true) := by
  refine (funP_sound (XAl_ok [(0, LMsgs la lb m off)]) (by kernel_rfl) ?_ _ _ fmS_scr _ ((fmS_vc la lb m off (fun x _ => x = .bool true)).mpr ?_)).mono (fun v σ ⟨s, q⟩ => q)
  · intro p hp' l hl
    obtain ⟨h0, rfl⟩ := lkOne hl
    rw [show (XAl [(0, LMsgs la lb m off)]).P = Try.prog from rfl, msgs_loops] at hp'
    simp only [List.mem_cons, List.not_mem_nil, or_false] at hp'
    subst hp'
    exact LMsgs_ok la lb m off
  · have hn : (!decide ((m : Int) = (m : Int))) = false := by simp
    have h' := h
    obtain ⟨l, l', k, rfl, rfl, rfl, _, hm, rfl, hd⟩ := h'
    unfold fmS_VC
    exact bothF hn ⟨rfl, ⟨rfl, ⟨.inr ⟨pfs_mF, rfl⟩, .inr ⟨pfs_mF, rfl⟩, trivial⟩, rfl, ⟨rfl, rfl, rfl, trivial⟩⟩, h, rfl⟩
/-- Blocks, by where they are. -/
def mp2 (a b : Nat) : Nat → Option Nat := fun i => if i = 0 then some a else if i = 1 then some b else none
theorem ro2_wr {l l' : List AV} : ∀ i, ((⟨2, [(1, .ro l'), (0, .ro l)]⟩ : AH).get i).wr = false := by
  intro i
  by_cases i0 : i = 0
  · subst i0; rfl
  · by_cases i1 : i = 1
    · subst i1; rfl
    · simp [AH.get, lookH, Ne.symm i0, Ne.symm i1, AObj.wr]
theorem ro1_wr {l : List AV} : ∀ i, ((⟨1, [(0, .ro l)]⟩ : AH).get i).wr = false := by
  intro i
  by_cases i0 : i = 0
  · subst i0; rfl
  · simp [AH.get, lookH, Ne.symm i0, AObj.wr]
theorem inv2_inv {b R x c : Nat} (hne : b ≠ R) (h : inv2 b R x = some c) : c < 2 ∧ mp2 b R c = some x := by
  unfold inv2 at h
  split at h
  · rename_i e; cases h; exact ⟨by omega, by simp [mp2, e]⟩
  · split at h
    · rename_i e; cases h; exact ⟨by omega, by simp [mp2, e]⟩
    · cases h
theorem inv2_a {b R : Nat} : inv2 b R b = some 0 := by simp [inv2]
theorem inv2_b {b R : Nat} (h : b ≠ R) : inv2 b R R = some 1 := by simp [inv2, Ne.symm h]
theorem allG_ok {xs : List AV} {σ : AH} {gs : List Bool} {v : AV} {τ : AH} (h : allG xs σ = some (gs, v, τ)) (hb : allB gs = true) : SC Try.prog 13 xs σ (fun u τ' => u = v ∧ τ' = τ) := by
  unfold allG at h
  split at h
  case h_2 => cases h
  split at h
  case h_2 => cases h
  rename_i n n' fr ct mk en rc h3 h2
  split at h
  · cases h
    simp only [allB, Bool.and_eq_true, Bool.and_true] at hb
    have hk := okB_of hb.2
    have hn : n' = n := hk.1
    subst hn
    have hx' : 3 < σ.nx := Nat.le_of_ble_eq_true hb.1
    refine SC.frameZ (σ0 := aH0 n' fr 0 mk en rc) (args0 := [.ptr 1 0]) (mp2 2 3) (inv2 2 3) ?_ ro2_wr (fun x c hc => inv2_inv (by omega) hc) rfl rfl all0_sc
    intro i hi
    have hi' : i < 2 := hi
    rcases (show i = 0 ∨ i = 1 by omega) with rfl | rfl
    · exact ⟨2, rc, rc, rfl, by omega, h2, rfl, .inr ⟨hk.2.2.2.2.2.2.2.2.1, rfl⟩⟩
    · exact ⟨3, _, _, rfl, hx', h3, rfl, .inl rfl⟩
  · rename_i c
    cases h
    simp only [allB, Bool.and_eq_true, Bool.and_true] at hb
    have hk := okB_of hb.2
    have hn : n' = n := hk.1
    subst hn
    have hx' : 3 < σ.nx := Nat.le_of_ble_eq_true hb.1
    refine SC.frameH (k := 2) (σ0 := aH0 n' fr ((c + 1 : Nat) : Int) mk en rc) (args0 := [.ptr 1 0]) (v := .slice 2 0 (c + 1) none) (mp2 2 3) (inv2 2 3) ?_ ro2_wr (fun x c hc => inv2_inv (by omega) hc) rfl pfs_mF rfl (all1_sc hk (by omega))
    intro i hi
    have hi' : i < 2 := hi
    rcases (show i = 0 ∨ i = 1 by omega) with rfl | rfl
    · exact ⟨2, rc, rc, rfl, by omega, h2, rfl, .inr ⟨hk.2.2.2.2.2.2.2.2.1, rfl⟩⟩
    · exact ⟨3, _, _, rfl, hx', h3, rfl, .inl rfl⟩
  · cases h
theorem msgsG_ok {xs : List AV} {σ : AH} {gs : List Bool} {v : AV} {τ : AH} (h : msgsG xs σ = some (gs, v, τ)) (hb : allB gs = true) : SC Try.prog 12 xs σ (fun u τ' => u = v ∧ τ' = τ) := by
  unfold msgsG at h
  split at h
  · cases h
    exact (SC.any rfl rfl msN_sc _).mono fun u τ ⟨e1, e2⟩ => ⟨e1, e2⟩
  · rename_i b o m
    split at h
    case h_2 => cases h
    rename_i lb h2
    cases h
    simp only [allB, Bool.and_eq_true, Bool.and_true] at hb
    obtain ⟨hm, hp⟩ := okB_of hb.2
    subst hm
    have hx' : b < σ.nx := Nat.le_of_ble_eq_true hb.1
    refine SC.frameZ (σ0 := ⟨1, [(0, .ro lb)]⟩) (args0 := [.nilslice, .slice 0 o 0 none]) (fun i => if i = 0 then some b else none) (fun x => if x = b then some 0 else none) ?_ ro1_wr ?_ ?_ rfl msE_sc
    · intro i hi
      have hi' : i < 1 := hi
      obtain rfl : i = 0 := by omega
      exact ⟨b, lb, lb, rfl, hx', h2, rfl, .inr ⟨hp, rfl⟩⟩
    · intro x c hc
      split at hc
      · rename_i e; cases hc; exact ⟨Nat.one_pos, by simp [e]⟩
      · cases hc
    · simp [renL, AV.ren]
  · rename_i a m b off m'
    split at h
    case h_2 => cases h
    rename_i la lb h1 h2
    cases h
    simp only [allB, Bool.and_eq_true, Bool.and_true, Bool.not_eq_true'] at hb
    obtain ⟨ha, hb', hne, hk⟩ := hb
    have hk := okB_of hk
    have hne' : a ≠ b := fun e => by subst e; rw [Nat.beq_refl] at hne; cases hne
    have ha' : a < σ.nx := Nat.le_of_ble_eq_true ha
    have hb2 : b < σ.nx := Nat.le_of_ble_eq_true hb'
    obtain ⟨l, l', k, rfl, rfl, rfl, rfl, hm, rfl, hd⟩ := hk
    refine SC.frameZ (σ0 := mHp (mF l) (mF l')) (args0 := [.slice 0 0 l.length none, .slice 1 (k * 7) l.length none]) (mp2 a b) (inv2 a b) ?_ ro2_wr (fun x c hc => inv2_inv hne' hc) ?_ rfl (msS_sc ⟨l, l', k, rfl, rfl, rfl, rfl, hm, rfl, hd⟩)
    · intro i hi
      have hi' : i < 2 := hi
      rcases (show i = 0 ∨ i = 1 by omega) with rfl | rfl
      · exact ⟨a, _, _, rfl, ha', h1, rfl, .inr ⟨pfs_mF, rfl⟩⟩
      · exact ⟨b, _, _, rfl, hb2, h2, rfl, .inr ⟨pfs_mF, rfl⟩⟩
    · simp [renL, AV.ren, inv2_a, inv2_b hne']
  · cases h
theorem lkG_ok : GOrcOk Try.prog lkG := by
  intro f F hF xs σ gs v τ h hb
  unfold lkG at hF
  split at hF
  · rename_i e
    cases hF
    rw [Nat.eq_of_beq_eq_true e]
    exact allG_ok h hb
  · split at hF
    · rename_i e
      cases hF
      rw [Nat.eq_of_beq_eq_true e]
      exact msgsG_ok h hb
    · cases hF
end Go.Proofs.Ytfamikdibjhnpaa.V
