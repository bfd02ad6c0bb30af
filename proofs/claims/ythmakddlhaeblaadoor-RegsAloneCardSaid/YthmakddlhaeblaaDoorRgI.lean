/- regs: the laws over any registers (part 4): what Get, Put, Pair, PutPair answer. -/
import Derived.Test.YthmakddlhaeblaaDoorRgF
namespace Go.Proofs.YthmakddlhaeblaaDoor.V
open Go Go.Proofs
set_option maxRecDepth 100000
set_option linter.unusedSimpArgs false
set_option linter.unusedVariables false
def mdG (a b c : Int) : List AV → Option (Bool × AV)
  | [.int .i64 n, .int .i64 3] => some (decide (mdN n 3 = a), .int .i64 a)
  | [.int .i64 n, .int .i64 8] => some (decide (mdN n 8 = b), .int .i64 b)
  | [.int .i64 n, .int .i64 4] => some (decide (mdN n 4 = c), .int .i64 c)
  | _ => none
theorem mdG_tr (a b c : Int) : TrOk Tryd.prog 17 (pureG (mdG a b c)) := by
  refine pureG_ok ?_
  intro xs v h
  unfold mdG at h
  split at h
  · simp only [Option.some.injEq, Prod.mk.injEq, decide_eq_true_eq] at h
    obtain ⟨hp, rfl⟩ := h
    subst hp
    exact ⟨rfl, rfl, sc_of_vc XR0_ok (by kernel_rfl) (md3_vc _ _) rfl⟩
  · simp only [Option.some.injEq, Prod.mk.injEq, decide_eq_true_eq] at h
    obtain ⟨hp, rfl⟩ := h
    subst hp
    exact ⟨rfl, rfl, sc_of_vc XR0_ok (by kernel_rfl) (md8_vc _ _) rfl⟩
  · simp only [Option.some.injEq, Prod.mk.injEq, decide_eq_true_eq] at h
    obtain ⟨hp, rfl⟩ := h
    subst hp
    exact ⟨rfl, rfl, sc_of_vc XR0_ok (by kernel_rfl) (md4_vc _ _) rfl⟩
  · cases h
def purR3 : Pur := [(18, splF), (16, prF)]
theorem purR3_ok : PurOk Tryd.prog purR3 := PurOk.cons spl_tr <| PurOk.cons pr_tr PurOk.nil
def okR3 : List Nat := [19, 20, 21, 25, 26, 27, 28, 29]
theorem okR3_ok : okFunsX Tryd.prog okR3 = true := by kernel_rfl
def trsR3 (a b c : Int) : List (Nat × Tr1) := (17, pureG (mdG a b c)) :: purR3.map fun p => (p.1, pureT p.2)
theorem trsR3_ok (a b c : Int) : TrsOk Tryd.prog (lookT (trsR3 a b c)) := TrsOk.cons (mdG_tr a b c) <| TrsOk.cons spl_tr <| TrsOk.cons pr_tr TrsOk.nil
noncomputable def XG (a b c : Int) : Cx := ⟨Tryd.prog, inl Tryd.prog (purO purR3) (purR3.map (·.1)) 20 (lookT (trsR3 a b c)) okR3 6, purO purR3, purR3.map (·.1), 20, lookL []⟩
theorem XG_ok (a b c : Int) : CxOk (XG a b c) := ⟨inl_ok (purO_ok purR3_ok) mixedrg (trsR3_ok a b c) okR3_ok 6, purO_ok purR3_ok, mixedrg⟩
theorem sc_of_vcG {a b c : Int} {f : Nat} (hd : okFunsX Tryd.prog [f] = true) {xs : List AV} {s : Plan} {K : AV → Prop} {A : Prop} (e : funP (XG a b c) f xs h0 s (fun v _ _ => K v) = A) (h : A) : SC Tryd.prog f xs h0 (fun u _ => K u) :=
  (funP_sound (XG_ok a b c) hd (fun p _ L hL => by cases hL) xs h0 s _ (e.mpr h)).mono (fun v σ ⟨s, q⟩ => q)
/-- A byte by its code (a set, a code). -/
def getN (a c d e f g h ix iy j k : Int) : Int :=
  if k = 0 then c else if k = 1 then d else if k = 2 then e else if k = 3 then f else if k = 6 then 0 else if k = 7 then a
  else if k = 4 then (if j = 1 then hiN ix else if j = 2 then hiN iy else g) else (if j = 1 then loN ix else if j = 2 then loN iy else h)
/-- A pair by its code. -/
def pairN (a b c d e f g h ix iy sp : Int) (s : Bool) (j k : Int) : Int :=
  if k = 0 then prN c d else if k = 1 then prN e f else if k = 3 then (if s = true then prN a b else sp)
  else if j = 1 then ix else if j = 2 then iy else prN g h
def aP (a w j k : Int) : Int := if k = 7 then w else a
def cP (c w j k : Int) : Int := if k = 0 then w else c
def dP (d w j k : Int) : Int := if k = 1 then w else d
def eP (e w j k : Int) : Int := if k = 2 then w else e
def fP (f w j k : Int) : Int := if k = 3 then w else f
def gP (g w j k : Int) : Int := if k = 4 ∧ j = 0 then w else g
def hP (h w j k : Int) : Int := if k = 5 ∧ j = 0 then w else h
def ixP (ix w j k : Int) : Int := if k = 4 ∧ j = 1 then prN w (loN ix) else if k = 5 ∧ j = 1 then prN (hiN ix) w else ix
def iyP (iy w j k : Int) : Int := if k = 4 ∧ j = 2 then prN w (loN iy) else if k = 5 ∧ j = 2 then prN (hiN iy) w else iy
def aQ (a : Int) (s : Bool) (w j k : Int) : Int := if k = 3 ∧ s = true then hiN w else a
def bQ (b : Int) (s : Bool) (w j k : Int) : Int := if k = 3 ∧ s = true then loN w else b
def cQ (c : Int) (s : Bool) (w j k : Int) : Int := if k = 0 then hiN w else c
def dQ (d : Int) (s : Bool) (w j k : Int) : Int := if k = 0 then loN w else d
def eQ (e : Int) (s : Bool) (w j k : Int) : Int := if k = 1 then hiN w else e
def fQ (f : Int) (s : Bool) (w j k : Int) : Int := if k = 1 then loN w else f
def gQ (g : Int) (s : Bool) (w j k : Int) : Int := if k = 2 ∧ j = 0 then hiN w else g
def hQ (h : Int) (s : Bool) (w j k : Int) : Int := if k = 2 ∧ j = 0 then loN w else h
def ixQ (ix : Int) (s : Bool) (w j k : Int) : Int := if k = 2 ∧ j = 1 then w else ix
def iyQ (iy : Int) (s : Bool) (w j k : Int) : Int := if k = 2 ∧ j = 2 then w else iy
def spQ (sp : Int) (s : Bool) (w j k : Int) : Int := if k = 3 ∧ s = false then w else sp
def getF : List AV → Option AV
  | [.agg [.int .u8 a, .int .u8 b, .int .u8 c, .int .u8 d, .int .u8 e, .int .u8 f, .int .u8 g, .int .u8 h, .int .u8 i, .int .u8 r, .int .u16 ix, .int .u16 iy, .int .u16 sp, .int .u16 pc, .int .u16 wz, .int .u16 af, .int .u16 bc, .int .u16 de, .int .u16 hl, .bool p, .bool q, .int .i64 im, .bool u, .bool v], .int .i64 j, .int .i64 k] => some (.int .u8 (getN a c d e f g h ix iy (mdN j 3) (mdN k 8)))
  | _ => none
def pairF : List AV → Option AV
  | [.agg [.int .u8 a, .int .u8 b, .int .u8 c, .int .u8 d, .int .u8 e, .int .u8 f, .int .u8 g, .int .u8 h, .int .u8 i, .int .u8 r, .int .u16 ix, .int .u16 iy, .int .u16 sp, .int .u16 pc, .int .u16 wz, .int .u16 af, .int .u16 bc, .int .u16 de, .int .u16 hl, .bool p, .bool q, .int .i64 im, .bool u, .bool v], .int .i64 j, .int .i64 k, .bool s] => some (.int .u16 (pairN a b c d e f g h ix iy sp s (mdN j 3) (mdN k 4)))
  | _ => none
def putF : List AV → Option AV
  | [.agg [.int .u8 a, .int .u8 b, .int .u8 c, .int .u8 d, .int .u8 e, .int .u8 f, .int .u8 g, .int .u8 h, .int .u8 i, .int .u8 r, .int .u16 ix, .int .u16 iy, .int .u16 sp, .int .u16 pc, .int .u16 wz, .int .u16 af, .int .u16 bc, .int .u16 de, .int .u16 hl, .bool p, .bool q, .int .i64 im, .bool u, .bool v], .int .i64 j, .int .i64 k, .int .u8 w] => some (.agg [.int .u8 (aP a w (mdN j 3) (mdN k 8)), .int .u8 b, .int .u8 (cP c w (mdN j 3) (mdN k 8)), .int .u8 (dP d w (mdN j 3) (mdN k 8)), .int .u8 (eP e w (mdN j 3) (mdN k 8)), .int .u8 (fP f w (mdN j 3) (mdN k 8)), .int .u8 (gP g w (mdN j 3) (mdN k 8)), .int .u8 (hP h w (mdN j 3) (mdN k 8)), .int .u8 i, .int .u8 r, .int .u16 (ixP ix w (mdN j 3) (mdN k 8)), .int .u16 (iyP iy w (mdN j 3) (mdN k 8)), .int .u16 sp, .int .u16 pc, .int .u16 wz, .int .u16 af, .int .u16 bc, .int .u16 de, .int .u16 hl, .bool p, .bool q, .int .i64 im, .bool u, .bool v])
  | _ => none
def putPF : List AV → Option AV
  | [.agg [.int .u8 a, .int .u8 b, .int .u8 c, .int .u8 d, .int .u8 e, .int .u8 f, .int .u8 g, .int .u8 h, .int .u8 i, .int .u8 r, .int .u16 ix, .int .u16 iy, .int .u16 sp, .int .u16 pc, .int .u16 wz, .int .u16 af, .int .u16 bc, .int .u16 de, .int .u16 hl, .bool p, .bool q, .int .i64 im, .bool u, .bool v], .int .i64 j, .int .i64 k, .bool s, .int .u16 w] => some (.agg [.int .u8 (aQ a s w (mdN j 3) (mdN k 4)), .int .u8 (bQ b s w (mdN j 3) (mdN k 4)), .int .u8 (cQ c s w (mdN j 3) (mdN k 4)), .int .u8 (dQ d s w (mdN j 3) (mdN k 4)), .int .u8 (eQ e s w (mdN j 3) (mdN k 4)), .int .u8 (fQ f s w (mdN j 3) (mdN k 4)), .int .u8 (gQ g s w (mdN j 3) (mdN k 4)), .int .u8 (hQ h s w (mdN j 3) (mdN k 4)), .int .u8 i, .int .u8 r, .int .u16 (ixQ ix s w (mdN j 3) (mdN k 4)), .int .u16 (iyQ iy s w (mdN j 3) (mdN k 4)), .int .u16 (spQ sp s w (mdN j 3) (mdN k 4)), .int .u16 pc, .int .u16 wz, .int .u16 af, .int .u16 bc, .int .u16 de, .int .u16 hl, .bool p, .bool q, .int .i64 im, .bool u, .bool v])
  | _ => none
end Go.Proofs.YthmakddlhaeblaaDoor.V
