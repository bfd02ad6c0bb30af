/- link: what is sent and taken (part 8): All and Msgs as what is known of them; the law's tail. -/
import Derived.Test.YtfamikdibjhnpaaLkQ
namespace Go.Proofs.Ytfamikdibjhnpaa.V
open Go Go.Proofs
set_option maxRecDepth 100000
set_option linter.unusedVariables false
def rowsOf (n : Nat) (fr : Int) (rc : List AV) (c : Nat) : List Mg := (List.range c).map fun j => rowAt rc ((fr.toNat + j) % n)
def allR (n : Nat) (fr : Int) (rc : List AV) (c : Nat) : List AV := mF (rowsOf n fr rc c)
/-- Conditions, as Bools. -/
noncomputable def okB (p : Prop) : Bool := @decide p (Classical.propDecidable p)
theorem okB_true {p : Prop} (h : p) : okB p = true := @decide_eq_true p (Classical.propDecidable p) h
theorem okB_of {p : Prop} (h : okB p = true) : p := @of_decide_eq_true p (Classical.propDecidable p) h
noncomputable def lnB (n n' : Nat) (fr : Int) (rc : List AV) (c : Nat) : Bool := okB (lnOk n n' fr (c : Int) rc)
def msOk (la lb : List AV) (m m' off : Nat) : Prop := ∃ (l l' : List Mg) (k : Nat), la = mF l ∧ lb = mF l' ∧ m = l.length ∧ m' = m ∧ m ≤ 100 ∧ off = k * 7 ∧ (l'.drop k).take m = l
noncomputable def msB (la lb : List AV) (m m' off : Nat) : Bool := okB (msOk la lb m m' off)
noncomputable def msE (lb : List AV) (m : Nat) : Bool := okB (m = 0 ∧ pfs lb = true)
noncomputable def allG : List AV → AH → G
  | [.ptr 3 0], σ => match (σ.get 3).cs?, (σ.get 2).cs? with
    | some [.slice 2 0 n (some n'), .int .i64 fr, .int .i64 ct, .int .i64 mk, .bool en], some rc => match ct with
      | .ofNat 0 => some ([Nat.blt 3 σ.nx, lnB n n' fr rc 0], .nilslice, σ)
      | .ofNat (c + 1) => some ([Nat.blt 3 σ.nx, lnB n n' fr rc (c + 1)], .slice σ.nx 0 (c + 1) none, σ.push (.opn 33 7 (allR n fr rc (c + 1))))
      | _ => none
    | _, _ => none
  | _, _ => none
noncomputable def msgsG : List AV → AH → G
  | [.nilslice, .nilslice], σ => some ([], .bool true, σ)
  | [.nilslice, .slice b o m none], σ => match (σ.get b).cs? with
    | some lb => some ([Nat.blt b σ.nx, msE lb m], .bool true, σ)
    | _ => none
  | [.slice a 0 m none, .slice b off m' none], σ => match (σ.get a).cs?, (σ.get b).cs? with
    | some la, some lb => some ([Nat.blt a σ.nx, Nat.blt b σ.nx, !Nat.beq a b, msB la lb m m' off], .bool true, σ)
    | _, _ => none
  | _, _ => none
noncomputable def lkG : GOrc := fun f => if Nat.beq f 13 = true then some allG else if Nat.beq f 12 = true then some msgsG else none
noncomputable def lkAllC : Code := bodyOf Try.prog 3
noncomputable def lkTail : Code := tlC (tlC (tlC (tlC (tlC (tlC (tlC (tlC lkAllC)))))))
noncomputable def lkMid : Code := hdC (tlC (tlC (tlC (tlC (tlC (tlC (tlC lkAllC)))))))
noncomputable def lkPre : List Code := [hdC lkAllC, hdC (tlC lkAllC), hdC (tlC (tlC lkAllC)), hdC (tlC (tlC (tlC lkAllC))), hdC (tlC (tlC (tlC (tlC lkAllC)))), hdC (tlC (tlC (tlC (tlC (tlC lkAllC))))), hdC (tlC (tlC (tlC (tlC (tlC (tlC lkAllC))))))]
theorem lkAll_eq : lkAllC = seqs lkPre (.seq lkMid lkTail) := by kernel_rfl
theorem lkMid_eq : lkMid = .seq (hdC lkMid) (.block 0 (.loop lkBody)) := by kernel_rfl
def frT (iv ov : AV) : AF := ⟨162, [(8, .ptr 3 0), (10, iv), (11, ov)]⟩
noncomputable def XTl : Cx := ⟨Try.prog, purT [], purO [], [13, 12], 20, lookL []⟩
theorem XTl_ok : CxOk XTl := ⟨purT_ok PurOk.nil, purO_ok PurOk.nil, mixedlives⟩
end Go.Proofs.Ytfamikdibjhnpaa.V
