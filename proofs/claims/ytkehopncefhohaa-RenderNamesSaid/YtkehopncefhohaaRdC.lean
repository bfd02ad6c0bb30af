/- render: a frame's picture out of nothing (part 3): picture's pieces. -/
import Derived.Test.YtkehopncefhohaaRdB
namespace Go.Proofs.Ytkehopncefhohaa.V
open Go Go.Proofs
set_option maxRecDepth 100000
set_option linter.unusedSimpArgs false
set_option linter.unusedVariables false
def okRw : List Nat := [24, 23]
theorem okRw_ok : okFunsX Try.prog okRw = true := by kernel_rfl
noncomputable def XRw : Cx := cxP Try.prog purR okRw
theorem XRw_ok : CxOk (cxP Try.prog purR okRw) := cxP_ok mixedR purR_ok okRw_ok
noncomputable def pcC : Code := bodyOf Try.prog 11
noncomputable def pcSy : List Nat := symC Try.prog pcC []
noncomputable def pcY : Code := loopAt Try.prog 11 0
noncomputable def pcX : Code := loopAt Try.prog 11 1
noncomputable def pcPre : List Code := [hdC pcC, hdC (tlC pcC), hdC (tlC (tlC pcC))]
noncomputable def pcMid : Code := hdC (tlC (tlC (tlC pcC)))
noncomputable def pcTail : Code := tlC (tlC (tlC (tlC pcC)))
noncomputable def pcYH : List Code := [hdC pcY, hdC (tlC pcY)]
noncomputable def pcYB : Code := inC (hdC (tlC (tlC pcY)))
noncomputable def pcYI : Code := tlC (tlC (tlC pcY))
noncomputable def pcYS : List Code := [hdC pcYB, hdC (tlC pcYB)]
theorem pcC_eq : pcC = seqs pcPre (.seq pcMid pcTail) := by kernel_rfl
theorem pcMid_eq : pcMid = seqs [hdC pcMid] (.block 0 (.loop pcY)) := by kernel_rfl
theorem pcY_eq : pcY = seqs pcYH (.seq (.block 1 pcYB) pcYI) := by kernel_rfl
theorem pcYB_eq : pcYB = seqs pcYS (.block 2 (.loop pcX)) := by kernel_rfl
noncomputable def pcXH : List Code := [hdC pcX, hdC (tlC pcX)]
noncomputable def pcXB : Code := inC (hdC (tlC (tlC pcX)))
noncomputable def pcXI : Code := tlC (tlC (tlC pcX))
noncomputable def pcXS : List Code := [hdC pcXB, hdC (tlC pcXB), hdC (tlC (tlC pcXB)), hdC (tlC (tlC (tlC pcXB)))]
noncomputable def pcM : Code := loopAt Try.prog 11 2
theorem pcX_eq : pcX = seqs pcXH (.seq (.block 3 pcXB) pcXI) := by kernel_rfl
theorem pcXB_eq : pcXB = seqs pcXS (.block 4 (.loop pcM)) := by kernel_rfl
def slY : List Nat := [1, 2, 3, 6, 7, 27, 28]
def slX : List Nat := [1, 2, 3, 6, 7, 8, 27, 28, 32, 33]
def fY (y : Int) : AF := ⟨75, [(1, .ptr 2 0), (2, .int .i64 0), (3, .ptr 0 0), (6, .ptr 1 0), (7, .ptr 3 0), (27, .int .i64 192), (28, .int .i64 y)]⟩
def fX (y x : Int) : AF := ⟨75, [(1, .ptr 2 0), (2, .int .i64 0), (3, .ptr 0 0), (6, .ptr 1 0), (7, .ptr 3 0), (8, .int .i64 y), (27, .int .i64 192), (28, .int .i64 y), (32, .int .i64 32), (33, .int .i64 x)]⟩
def slM : List Nat := [1, 2, 3, 6, 7, 8, 12, 13, 14, 27, 28, 32, 33]
def fM (y x m : Int) : AF := ⟨75, [(1, .ptr 2 0), (2, .int .i64 0), (3, .ptr 0 0), (6, .ptr 1 0), (7, .ptr 3 0), (8, .int .i64 y), (12, .int .u8 0), (13, .int .u8 0), (14, .int .u8 m), (27, .int .i64 192), (28, .int .i64 y), (32, .int .i64 32), (33, .int .i64 x)]⟩
def scrC : List AV := [.int .i64 311, .int .i64 228, .int .i64 63, .int .i64 192, .int .i64 14, .int .i64 32, .int .i64 36]
def pHp (pv : AV) (o4 : AObj) : AH := ⟨5, [(0, .cells 29 scrC), (1, .cells 24 [.int .i64 0, .nilslice, .nilslice]), (2, .cells 65 [.nilmap, .nilmap, .nilslice]), (3, .cells 24 [.int .i64 0, pv, .nilslice]), (4, o4)]⟩
end Go.Proofs.Ytkehopncefhohaa.V
