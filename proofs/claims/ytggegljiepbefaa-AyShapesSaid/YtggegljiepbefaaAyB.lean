/- ay: what Noise, Envelope and Pick answer. -/
import Derived.Test.YtggegljiepbefaaAyV
namespace Go.Proofs.Ytggegljiepbefaa.V
open Go Go.Proofs
set_option maxRecDepth 100000
set_option linter.unusedSimpArgs false
set_option linter.unusedVariables false
theorem tr_of_fun {X : Cx} (hX : CxOk X) {f : Nat} (hd : okFunsX X.P [f] = true) (hl : X.lps = lookL []) : TrOk X.P f (funP X f) :=
  funP_sound hX hd (fun p _ L hL => by rw [hl] at hL; cases hL)
theorem sc_of_fun {X : Cx} (hX : CxOk X) {f : Nat} (hd : okFunsX X.P [f] = true) (hl : X.lps = lookL []) {xs : List AV} {σ : AH} {s : Plan} {K : AV → Prop} {A : Prop} (e : funP X f xs σ s (fun v _ _ => K v) = A) (h : A) : SC X.P f xs σ (fun u _ => K u) :=
  (tr_of_fun hX hd hl xs σ s _ (e.mpr h)).mono (fun v σ ⟨s, q⟩ => q)
def noiseN (x : Int) : Int := bits .or .u32 (x.tmod 131072 / 2) (IntKind.u32.wrap (bits .and .u32 (bits .xor .u32 (x.tmod 131072) (x.tmod 131072 / 8)) 1 * 65536))
def noiseF : List AV → Option AV
  | [.int .u32 x] => some (.int .u32 (noiseN x))
  | _ => none
theorem noise_tr : TrOk Try.prog 10 (pureT noiseF) := by
  refine pureT_ok ?_
  intro xs v h
  unfold noiseF at h
  split at h
  · cases h
    exact ⟨rfl, rfl, sc_of_fun XAy_ok (by kernel_rfl) rfl (noise1_vc _ _) rfl⟩
  · cases h
def envN (s p : Int) : Int :=
  let q := (if p > 0 then p else 0).tmod 32
  let l := q.tmod 16
  if IntKind.i64.wrap (q.tdiv 16) = 0 then (if bits .and .u8 s 4 = 0 then IntKind.i64.wrap (15 - l) else l)
  else if bits .and .u8 s 8 = 0 then 0
  else if bits .and .u8 s 1 = 0 then
    (if (bits .and .u8 s 2 = 0) = (bits .and .u8 s 4 = 0) then IntKind.i64.wrap (15 - l) else l)
  else (if (bits .and .u8 s 2 = 0) = (bits .and .u8 s 4 = 0) then 0 else 15)
def envF : List AV → Option AV
  | [.int .u8 s, .int .i64 p] => some (.int .i64 (envN s p))
  | _ => none
theorem env_tr : TrOk Try.prog 12 (pureT envF) := by
  refine pureT_ok ?_
  intro xs v h
  unfold envF at h
  split at h
  · cases h
    rename_i s p
    refine ⟨rfl, rfl, sc_of_fun XAy_ok (by kernel_rfl) rfl (env1_vc _ _ _) ?_⟩
    unfold env1_VC envN
    dsimp only
    generalize (if p > 0 then p else 0).tmod 32 = q
    generalize IntKind.i64.wrap (q.tdiv 16) = r
    by_cases h0 : r = 0 <;> by_cases h1 : bits .and .u8 s 1 = 0 <;> by_cases h2 : bits .and .u8 s 2 = 0 <;> by_cases h4 : bits .and .u8 s 4 = 0 <;> by_cases h8 : bits .and .u8 s 8 = 0 <;> simp [h0, h1, h2, h4, h8]
  · cases h
def pick (n m : Int) : Int := if m < 1 then 0 else if n.tmod m < 0 then IntKind.i64.wrap (n.tmod m + m) else n.tmod m
def pickF : List AV → Option AV
  | [.int .i64 n, .int .i64 m] => some (.int .i64 (pick n m))
  | _ => none
theorem pick_tr : TrOk Try.prog 11 (pureT pickF) := by
  refine pureT_ok ?_
  intro xs v h
  unfold pickF at h
  split at h
  · cases h
    rename_i n m
    refine ⟨rfl, rfl, sc_of_fun XAy_ok (by kernel_rfl) rfl (pick1_vc _ _ _) ?_⟩
    unfold pick1_VC pick
    by_cases h1 : m < 1
    · simp [h1]
    · by_cases h2 : n.tmod m < 0 <;> simp [h1, h2] <;> omega
  · cases h
noncomputable def baseAy2 : Trs := lookT [(9, pureT livesF), (10, pureT noiseF), (12, pureT envF), (11, pureT pickF)]
theorem baseAy2_ok : TrsOk Try.prog baseAy2 := TrsOk.cons lives_tr (TrsOk.cons noise_tr (TrsOk.cons env_tr (TrsOk.cons pick_tr TrsOk.nil)))
noncomputable def XAy2 : Cx := ⟨Try.prog, baseAy2, fun _ => none, [], 20, lookL []⟩
theorem XAy2_ok : CxOk XAy2 := ⟨baseAy2_ok, orc_none _, mixedAy⟩
end Go.Proofs.Ytggegljiepbefaa.V
