/- event: the laws over any events and kinds (part 3): names. -/
import Derived.Test.YtdhpdaogakignaaDoorEvD
namespace Go.Proofs.YtdhpdaogakignaaDoor.V
open Go Go.Proofs
set_option maxRecDepth 100000
set_option linter.unusedSimpArgs false
set_option linter.unusedVariables false
def nmB (k : Int) : ByteArray := if k = 1 then ⟨#[102, 101, 116, 99, 104]⟩ else if k = 2 then ⟨#[114, 101, 97, 100]⟩ else if k = 3 then ⟨#[119, 114, 105, 116, 101]⟩ else if k = 4 then ⟨#[105, 110]⟩ else if k = 5 then ⟨#[111, 117, 116]⟩ else if k = 6 then ⟨#[97, 99, 107]⟩ else if k = 7 then ⟨#[112, 105, 120, 101, 108]⟩ else if k = 8 then ⟨#[97, 116, 116, 114]⟩ else if k = 9 then ⟨#[98, 111, 114, 100, 101, 114]⟩ else if k = 10 then ⟨#[98, 101, 101, 112]⟩ else if k = 11 then ⟨#[108, 101, 118, 101, 108]⟩ else if k = 12 then ⟨#[115, 116, 97, 116, 117, 115]⟩ else ⟨#[]⟩
def nameF : List AV → Option AV
  | [.int .i64 k] => some (.str (nmB k))
  | _ => none
def purE1 : Pur := [(8, chipF)]
theorem purE1_ok : PurOk Tryd.prog purE1 := PurOk.cons chip_tr PurOk.nil
noncomputable def XE1 : Cx := cxP Tryd.prog purE1 []
theorem XE1_ok : CxOk (cxP Tryd.prog purE1 []) := cxP_ok mixedev purE1_ok rfl
theorem nm_run1 : xF Tryd.prog orcEv qtEv okEv 20 9 [.int .i64 1] h0 = some (.str ⟨#[102, 101, 116, 99, 104]⟩, h0) := by kernel_rfl
theorem nm_run2 : xF Tryd.prog orcEv qtEv okEv 20 9 [.int .i64 2] h0 = some (.str ⟨#[114, 101, 97, 100]⟩, h0) := by kernel_rfl
theorem nm_run3 : xF Tryd.prog orcEv qtEv okEv 20 9 [.int .i64 3] h0 = some (.str ⟨#[119, 114, 105, 116, 101]⟩, h0) := by kernel_rfl
theorem nm_run4 : xF Tryd.prog orcEv qtEv okEv 20 9 [.int .i64 4] h0 = some (.str ⟨#[105, 110]⟩, h0) := by kernel_rfl
theorem nm_run5 : xF Tryd.prog orcEv qtEv okEv 20 9 [.int .i64 5] h0 = some (.str ⟨#[111, 117, 116]⟩, h0) := by kernel_rfl
theorem nm_run6 : xF Tryd.prog orcEv qtEv okEv 20 9 [.int .i64 6] h0 = some (.str ⟨#[97, 99, 107]⟩, h0) := by kernel_rfl
theorem nm_run7 : xF Tryd.prog orcEv qtEv okEv 20 9 [.int .i64 7] h0 = some (.str ⟨#[112, 105, 120, 101, 108]⟩, h0) := by kernel_rfl
theorem nm_run8 : xF Tryd.prog orcEv qtEv okEv 20 9 [.int .i64 8] h0 = some (.str ⟨#[97, 116, 116, 114]⟩, h0) := by kernel_rfl
theorem nm_run9 : xF Tryd.prog orcEv qtEv okEv 20 9 [.int .i64 9] h0 = some (.str ⟨#[98, 111, 114, 100, 101, 114]⟩, h0) := by kernel_rfl
theorem nm_run10 : xF Tryd.prog orcEv qtEv okEv 20 9 [.int .i64 10] h0 = some (.str ⟨#[98, 101, 101, 112]⟩, h0) := by kernel_rfl
theorem nm_run11 : xF Tryd.prog orcEv qtEv okEv 20 9 [.int .i64 11] h0 = some (.str ⟨#[108, 101, 118, 101, 108]⟩, h0) := by kernel_rfl
theorem nm_run12 : xF Tryd.prog orcEv qtEv okEv 20 9 [.int .i64 12] h0 = some (.str ⟨#[115, 116, 97, 116, 117, 115]⟩, h0) := by kernel_rfl
theorem run_val {n f : Nat} {args : List AV} {v : AV} (h : xF Tryd.prog orcEv qtEv okEv n f args h0 = some (v, h0)) : SC Tryd.prog f args h0 (fun u _ => u = v) :=
  (xF_sound orcEv_ok mixedev okEv_ok n f args h0 v h0 h).mono fun u τ q => q.1
def lvF : List AV → Option AV
  | [] => some (.bool true)
  | _ => none
theorem lv_tr : TrOk Tryd.prog 7 (pureT lvF) := by
  refine pureT_ok ?_
  intro xs v h
  unfold lvF at h
  split at h
  · cases h
    exact ⟨rfl, rfl, elives_sc⟩
  · cases h
end Go.Proofs.YtdhpdaogakignaaDoor.V
