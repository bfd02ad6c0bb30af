/- render: a frame's picture out of nothing (part 2): what is known of the functions. -/
import Derived.Test.YtkehopncefhohaaRdV
namespace Go.Proofs.Ytkehopncefhohaa.V
open Go Go.Proofs
set_option maxRecDepth 100000
set_option linter.unusedSimpArgs false
set_option linter.unusedVariables false
def checkF : List AV → Option AV
  | [.agg [.int .i64 311, .int .i64 228, .int .i64 63, .int .i64 192, .int .i64 14, .int .i64 32, .int .i64 36]] => some (.int .i64 0)
  | _ => none
def classicF : List AV → Option AV
  | [] => some classicA
  | _ => none
def mcheckF : List AV → Option AV
  | [.nilslice] => some (.int .i64 0)
  | _ => none
def flips (a f : Int) : Bool := (!decide (bits .and .u8 a 128 = 0)) && decide (Int.tmod (IntKind.i64.wrap (Int.tdiv (if f > 0 then f else 0) 16)) 2 = 1)
def colV (a : Int) (o : Bool) (f : Int) : Int :=
  let b := if (if flips a f = true then !o else o) = true then bits .and .u8 a 7 else bits .and .u8 (a / 8) 7
  if bits .and .u8 a 64 = 0 then b else IntKind.u8.wrap (b + 8)
def colourF : List AV → Option AV
  | [.int .u8 a, .bool o, .int .i64 f] => some (.int .u8 (colV a o f))
  | _ => none
def purR : List (Nat × (List AV → Option AV)) := [(15, checkF), (5, classicF), (22, mcheckF), (21, colourF)]
theorem check_sc : SC Try.prog 15 [classicA] h0 (fun u _ => u = .int .i64 0) :=
  (funP_sound XCk_ok (by kernel_rfl) (fun p _ L hL => by cases hL) _ _ ck_scr _ ((ck_vc () (fun u => u = .int .i64 0)).mpr rfl)).mono (fun v σ ⟨s, q⟩ => q)
theorem classic_sc : SC Try.prog 5 [] h0 (fun u _ => u = classicA) :=
  (funP_sound XR0_ok (by kernel_rfl) (fun p _ L hL => by cases hL) _ _ cl_scr _ ((cl_vc () (fun u => u = classicA)).mpr rfl)).mono (fun v σ ⟨s, q⟩ => q)
theorem mcheck_sc : SC Try.prog 22 [.nilslice] h0 (fun u _ => u = .int .i64 0) :=
  (funP_sound XR0_ok (by kernel_rfl) (fun p _ L hL => by cases hL) _ _ mc_scr _ ((mc_vc () (fun u => u = .int .i64 0)).mpr rfl)).mono (fun v σ ⟨s, q⟩ => q)
theorem colour_sc (a : Int) (o : Bool) (f : Int) : SC Try.prog 21 [.int .u8 a, .bool o, .int .i64 f] h0 (fun u _ => u = .int .u8 (colV a o f)) := by
  refine (funP_sound XR0_ok (by kernel_rfl) (fun p _ L hL => by cases hL) _ _ colr_scr _ ((colr_vc a o f (fun u => u = .int .u8 (colV a o f))).mpr ?_)).mono (fun v σ ⟨s, q⟩ => q)
  unfold colr_VC colV flips
  by_cases h1 : bits .and .u8 a 128 = 0 <;> by_cases h2 : Int.tmod (IntKind.i64.wrap (Int.tdiv (if f > 0 then f else 0) 16)) 2 = 1 <;> by_cases h3 : bits .and .u8 a 64 = 0 <;> cases o <;> simp [h1, h2, h3]
theorem purR_ok : PurOk Try.prog purR := by
  refine PurOk.cons (pureT_ok ?_) (PurOk.cons (pureT_ok ?_) (PurOk.cons (pureT_ok ?_) (PurOk.cons (pureT_ok ?_) PurOk.nil)))
  · intro xs v h
    unfold checkF at h
    split at h
    · cases h; exact ⟨rfl, rfl, check_sc⟩
    · cases h
  · intro xs v h
    unfold classicF at h
    split at h
    · cases h; exact ⟨rfl, rfl, classic_sc⟩
    · cases h
  · intro xs v h
    unfold mcheckF at h
    split at h
    · cases h; exact ⟨rfl, rfl, mcheck_sc⟩
    · cases h
  · intro xs v h
    unfold colourF at h
    split at h
    · cases h; exact ⟨rfl, rfl, colour_sc _ _ _⟩
    · cases h
end Go.Proofs.Ytkehopncefhohaa.V
