/- Printed by vc.py: what must hold for functions' ways (RkG). render: the chapter's names (part 6): the law. -/
import Derived.Test.YtkehopncefhohaaRkF
namespace Go.Proofs.Ytkehopncefhohaa.V
open Go Go.Proofs
set_option maxRecDepth 100000
set_option linter.unusedVariables false
def rnm_VC (u : Unit) (K : AV → Prop) : Prop :=
  K (AV.bool true)
def rnm_scr : Plan := .z
theorem rnm_vc (u : Unit) (K : AV → Prop) : (funP (cxP Try.prog purN okNm) 3 [] h0 rnm_scr (fun v _ _ => K v)) = rnm_VC u K := by kernel_rfl
end Go.Proofs.Ytkehopncefhohaa.V
namespace Go.Proofs.Ytkehopncefhohaa.V
open Go Go.Proofs
set_option linter.unusedVariables false
theorem rnames_sc : SC Try.prog 3 [] h0 (fun u _ => u = .bool true) :=
  sc_of_vc XNm_ok (by kernel_rfl) (rnm_vc () (fun u => u = .bool true)) rfl
end Go.Proofs.Ytkehopncefhohaa.V
