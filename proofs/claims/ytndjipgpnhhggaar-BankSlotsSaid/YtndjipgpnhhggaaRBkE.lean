/- bank: the law of slots over any page and bytes. -/
import Derived.Test.YtndjipgpnhhggaaRBkD
import Derived.Test.YtndjipgpnhhggaaRBkX
namespace Go.Proofs.YtndjipgpnhhggaaR.V
open Go Go.Proofs
set_option maxRecDepth 100000
set_option linter.unusedSimpArgs false
set_option linter.unusedVariables false
theorem slotsLaw_nil (a b : Int) : SC Try.prog 3 [.agg [.int .u8 a, .int .u8 b], .nilslice] h0 (fun u _ => u = .bool true) :=
  sc_of_vc XBk2_ok (by kernel_rfl) (bsN_vc a b _) rfl
theorem slotsLaw_empty (a b : Int) : SC Try.prog 3 [.agg [.int .u8 a, .int .u8 b], .slice 0 0 0 none] h0 (fun u _ => u = .bool true) :=
  sc_of_vc XBk2_ok (by kernel_rfl) (bsE_vc a b _) rfl
theorem slotsLaw_some {a b : Int} {n c : Nat} {ns : List Int} (ha : b8 a = true) (hb : b8 b = true) (hl : ns.length = n) (hall : ∀ z ∈ ns, b8 z = true) :
    SC Try.prog 3 [.agg [.int .u8 a, .int .u8 b], .slice 0 0 n (some c)] ⟨1, [(0, .ro (enc8 ns))]⟩ (fun u _ => u = .bool true) := by
  refine (funP_sound (XBs_ok a b n c ns) (f := 3) (by kernel_rfl) ?_ _ _ _ _ ((bs_vc a b n c ns (fun u _ => u = .bool true)).mpr ?_)).mono (fun v σ ⟨s, q⟩ => q)
  · intro p hp' l hl
    obtain ⟨h0, rfl⟩ := lookL_one hl
    rw [only_first bk_loops hp' h0]
    exact LBk_ok _ _ _ _ _
  · unfold bs_VC
    refine ⟨fun _ => rfl, fun h => ⟨rfl, ⟨rfl, ⟨.inr ⟨pfs_enc8, rfl⟩, ⟨rfl, .inr ⟨rfl, rfl⟩⟩, trivial⟩, rfl, ⟨rfl, rfl, rfl, trivial⟩⟩, ?_, rfl⟩⟩
    have hn : n ≤ 60 := by simp at h; omega
    show bkPre a b n ns = true
    unfold bkPre
    simp only [Bool.and_eq_true, decide_eq_true_eq, List.all_eq_true]
    exact ⟨⟨⟨⟨ha, hb⟩, hl⟩, hn⟩, hall⟩
end Go.Proofs.YtndjipgpnhhggaaR.V
