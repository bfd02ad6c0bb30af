/- Own library, part 5: binary operations, conversions, built-in functions, append and copy over abstract values. -/
import Derived.Test.YteneafgmcmgahaaV4
import Derived.Laws.BytesString
import Derived.Laws.MakeOwn
namespace Go.Proofs.Yteneafgmcmgahaa.V
open Go
set_option linter.unusedSimpArgs false
set_option linter.unusedVariables false

variable {P : Program} {ρ : Ren} {σ : AH} {w : World}

-- ------------------------------------------------------------------ numbers
/-- Two numbers of one kind. -/
def aInt (op : BinOp) (k : IntKind) (a b : Int) : Option AV :=
  match op with
  | .add => some (.int k (k.wrap (a + b)))
  | .sub => some (.int k (k.wrap (a - b)))
  | .mul => some (.int k (k.wrap (a * b)))
  | .quo => if b = 0 then none else some (.int k (k.wrap (a.tdiv b)))
  | .rem => if b = 0 then none else some (.int k (a.tmod b))
  | .and => some (.int k (bits .and k a b))
  | .or => some (.int k (bits .or k a b))
  | .xor => some (.int k (bits .xor k a b))
  | .andNot => some (.int k (bits .andNot k a b))
  | .eql => some (.bool (decide (a = b)))
  | .neq => some (.bool (!decide (a = b)))
  | .lss => some (.bool (decide (a < b)))
  | .leq => some (.bool (decide (a ≤ b)))
  | .gtr => some (.bool (decide (a > b)))
  | .geq => some (.bool (decide (a ≥ b)))
  | _ => none
def aShift (op : BinOp) (k : IntKind) (a b : Int) : Option AV :=
  match op with
  | .shl => if 0 ≤ b then some (.int k (k.wrap (a * 2 ^ min b.toNat k.bits))) else none
  | .shr => if 0 ≤ b then some (.int k (a / 2 ^ min b.toNat k.bits)) else none
  | _ => none
def aStr (op : BinOp) (a b : ByteArray) : Option AV :=
  match op with
  | .add => if ((a.size + b.size : Nat) : Int) ≤ 9223372036854775807 then some (.str (a ++ b)) else none
  | .eql => some (.bool (decide (a.toList = b.toList)))
  | .neq => some (.bool (!decide (a.toList = b.toList)))
  | .lss => some (.bool (Op.bytesLess a.toList b.toList))
  | _ => none
/-- May two values of this type be compared? -/
def eqG (P : Program) (cst : Bool) (t : Nat) (x y : AV) : Bool :=
  match x, y with
  | .nilIface, .nilIface => cst
  | .agg _, .agg _ => !P.eqGuardType P.depth t
  | _, _ => true
def isC : Operand → Bool
  | .const _ => true
  | _ => false
def aCmp (P : Program) (cst : Bool) (op : BinOp) (t : Nat) (x y : AV) : Option AV :=
  match op with
  | .eql => match eqG P cst t x y, aEq P 20 t x y with
    | true, some r => some (.bool r)
    | _, _ => none
  | .neq => match eqG P cst t x y, aEq P 20 t x y with
    | true, some r => some (.bool (!r))
    | _, _ => none
  | _ => none
def aBin (P : Program) (cst : Bool) (op : BinOp) (t : Nat) (x y : AV) : Option AV :=
  match x, y with
  | .int k a, .int k' b => match op with
    | .shl => aShift .shl k a b
    | .shr => aShift .shr k a b
    | _ => if k = k' then aInt op k a b else none
  | .str a, .str b => aStr op a b
  | _, _ => aCmp P cst op t x y

theorem run_eqGuard {op : BinOp} {t : Nat} {x y : Operand} {a b : AV} {a' b' : Value} (ha : VR ρ a a') (hb : VR ρ b b') (g : eqG P (isC x || isC y) t a b = true) (w : World) :
    (eqGuard op t x y a' b').run P w = .ok () w := by
  by_cases hop : op = .eql ∨ op = .neq
  · cases ha <;> cases hb <;> first
      | (rcases hop with rfl | rfl <;> rfl)
      | skip
    · -- nil, nil
      simp only [eqG] at g
      cases x <;> cases y <;> first
        | (cases g; done)
        | (rcases hop with rfl | rfl <;> rfl)
    · simp only [eqG, Bool.not_eq_true'] at g
      exact run_eqGuard_agg w op t x y _ _ g
  · cases op <;> simp_all [eqGuard]

theorem binOp_eql_of {t : Nat} {x y : AV} {x' y' : Value} (hx : VR ρ x x') (hy : VR ρ y y') (h1 : ∀ k a k' b, ¬ (x = .int k a ∧ y = .int k' b)) (h2 : ∀ a b, ¬ (x = .str a ∧ y = .str b)) :
    binOp .eql t x' y' = (do pure (.bool (← Op.equal t x' y'))) ∧ binOp .neq t x' y' = (do pure (.bool (!(← Op.equal t x' y')))) := by
  cases hx <;> cases hy <;> first
    | exact ⟨rfl, rfl⟩
    | exact absurd ⟨rfl, rfl⟩ (h1 _ _ _ _)
    | exact absurd ⟨rfl, rfl⟩ (h2 _ _)

theorem ok_bin {op : BinOp} {t : Nat} {ox oy : Operand} {x y v : AV} {x' y' : Value} (h : HR ρ σ w) (hx : VR ρ x x') (hy : VR ρ y y')
    (e : aBin P (isC ox || isC oy) op t x y = some v) : Ok P (do eqGuard op t ox oy x' y'; binOp op t x' y') ρ σ w v σ := by
  by_cases hi : ∃ k a k' b, x = .int k a ∧ y = .int k' b
  · obtain ⟨k, a, k', b, rfl, rfl⟩ := hi
    cases hx; cases hy
    have g : (eqGuard op t ox oy (.int k a) (.int k' b)).run P w = .ok () w := run_eqGuard (ρ := ρ) (.int k a) (.int k' b) rfl w
    simp only [aBin] at e
    split at e
    · simp only [aShift] at e
      split at e
      · rename_i h0
        cases e
        refine .same h ?_ (.int _ _)
        simp only [Sem.run_bind, g, Result.andThen_ok, binOp, shift_shl_any _ _ _ _ h0, Sem.run_pure]
      · cases e
    · simp only [aShift] at e
      split at e
      · rename_i h0
        cases e
        refine .same h ?_ (.int _ _)
        simp only [Sem.run_bind, g, Result.andThen_ok, binOp, shift_shr_any _ _ _ _ h0, Sem.run_pure]
      · cases e
    · rename_i n1 n2
      split at e
      · rename_i hk
        subst hk
        unfold aInt at e
        split at e <;> first | (cases e; done) | skip
        all_goals first
          | (cases e
             refine .same h ?_ (by first | exact .int _ _ | exact .bool _)
             simp only [Sem.run_bind, g, Result.andThen_ok]
             simp [binOp, Op.intArith, Op.intBits, Op.intCmp, bits]
             done)
          | (split at e
             · cases e
             · rename_i hb0
               cases e
               refine .same h ?_ (.int _ _)
               simp only [Sem.run_bind, g, Result.andThen_ok]
               simp [binOp, Op.intDiv, hb0])
          | skip
        all_goals
          cases e
          refine .same h ?_ (.bool _)
          simp only [Sem.run_bind, g, Result.andThen_ok]
          simp [binOp, Op.intCmp]
          first | rfl | (congr 1; try (by_cases hab : a = b <;> simp [hab]))
      · cases e
  · by_cases hs : ∃ a b, x = .str a ∧ y = .str b
    · obtain ⟨a, b, rfl, rfl⟩ := hs
      cases hx; cases hy
      have g : (eqGuard op t ox oy (.string a) (.string b)).run P w = .ok () w := run_eqGuard (ρ := ρ) (.str a) (.str b) rfl w
      simp only [aBin] at e
      unfold aStr at e
      split at e
      · split at e
        · rename_i hsz
          cases e
          refine .same h ?_ (.str _)
          have : ¬ (((a.size + b.size : Nat) : Int) > IntKind.i64.max) := by
            have : IntKind.i64.max = 9223372036854775807 := by decide
            omega
          simp only [Sem.run_bind, g, Result.andThen_ok, binOp, Op.stringOp, this, if_false, Sem.run_pure]
        · cases e
      · cases e
        refine .same h ?_ (.bool _)
        simp only [Sem.run_bind, g, Result.andThen_ok, binOp, Op.stringOp, Sem.run_pure]
        congr 2
        by_cases hq : a.toList = b.toList <;> simp [hq]
      · cases e
        refine .same h ?_ (.bool _)
        simp only [Sem.run_bind, g, Result.andThen_ok, binOp, Op.stringOp, Sem.run_pure]
        congr 3
        by_cases hq : a.toList = b.toList <;> simp [hq]
      · cases e
        refine .same h ?_ (.bool _)
        simp only [Sem.run_bind, g, Result.andThen_ok, binOp, Op.stringOp, Sem.run_pure]
      · cases e
    · have h1 : ∀ k a k' b, ¬ (x = .int k a ∧ y = .int k' b) := fun k a k' b hq => hi ⟨k, a, k', b, hq⟩
      have h2 : ∀ a b, ¬ (x = .str a ∧ y = .str b) := fun a b hq => hs ⟨a, b, hq⟩
      have hb := binOp_eql_of (t := t) hx hy h1 h2
      have e' : aCmp P (isC ox || isC oy) op t x y = some v := by
        unfold aBin at e
        split at e
        · exact absurd ⟨rfl, rfl⟩ (h1 _ _ _ _)
        · exact absurd ⟨rfl, rfl⟩ (h2 _ _)
        · exact e
      clear e
      unfold aCmp at e'
      split at e'
      · split at e'
        · rename_i r hg hr
          cases e'
          have g := run_eqGuard (op := .eql) (P := P) hx hy hg w
          have hr' := aEq_run 20 t x y x' y' r Op.maxDepth w (by decide) hx hy hr
          refine .same h ?_ (.bool _)
          rw [hb.1]
          simp only [Sem.run_bind, g, Result.andThen_ok, Op.equal, hr', Sem.run_pure]
        · cases e'
      · split at e'
        · rename_i r hg hr
          cases e'
          have g := run_eqGuard (op := .neq) (P := P) hx hy hg w
          have hr' := aEq_run 20 t x y x' y' r Op.maxDepth w (by decide) hx hy hr
          refine .same h ?_ (.bool _)
          rw [hb.2]
          simp only [Sem.run_bind, g, Result.andThen_ok, Op.equal, hr', Sem.run_pure]
        · cases e'
      · cases e'

def aUn (op : UnOp) (x : AV) : Option AV :=
  match op, x with
  | .neg, .int k n => some (.int k (k.wrap (0 - n)))
  | .xor, .int k n => some (.int k (bits .xor k (if k.signed then -1 else k.max) n))
  | .not, .bool b => some (.bool (!b))
  | _, _ => none
theorem ok_un {op : UnOp} {x v : AV} {x' : Value} (h : HR ρ σ w) (hx : VR ρ x x') (e : aUn op x = some v) : Ok P (Op.unary op x') ρ σ w v σ := by
  unfold aUn at e
  split at e
  · cases hx; cases e; exact .same h rfl (.int _ _)
  · cases hx; cases e; exact .same h rfl (.int _ _)
  · cases hx; cases e; exact .same h rfl (.bool _)
  · cases e

-- ------------------------------------------------------------------ conversions
inductive CK where
  | int (k : IntKind) | str | bytes | no
def cvK (P : Program) (src dst : Nat) : CK :=
  match P.underlying src, P.underlying dst with
  | some (.int _), some (.int k) => .int k
  | some .string, some .string => .str
  | some (.slice e), some .string => match P.underlying e with
    | some (.int .u8) => .bytes
    | _ => .no
  | _, _ => .no
/-- The bytes of cells. -/
def toInts : List AV → Option (List Int)
  | [] => some []
  | .int .u8 n :: r => match toInts r with
    | some l => some (n :: l)
    | none => none
  | _ :: _ => none
theorem toInts_VRs {cs : List AV} {l : List Value} (h : VRs ρ cs l) : ∀ {ns}, toInts cs = some ns → l = ns.map (Value.int .u8) := by
  intro ns e
  induction cs generalizing l ns with
  | nil => cases h; simp [toInts] at e; subst e; rfl
  | cons c cs ih =>
    cases h with
    | cons hc ht =>
      unfold toInts at e
      split at e <;> first | (rename_i hq; cases hq; done) | (cases e; done) | skip
      rename_i n r hq
      cases hq
      split at e
      · rename_i l2 h2
        cases e
        cases hc
        rw [ih ht h2]; rfl
      · cases e
/-- The string of bytes. -/
def strOf (ns : List Int) : ByteArray := ns.foldl (fun r n => r.push (UInt8.ofNat n.toNat)) ByteArray.empty
def aConv (P : Program) (src dst : Nat) (x : AV) (σ : AH) : Option AV :=
  match cvK P src dst with
  | .int k => match x with
    | .int _ n => some (.int k (k.wrap n))
    | _ => none
  | .str => match x with
    | .str s => some (.str s)
    | _ => none
  | .bytes => match x with
    | .nilslice => some (.str ByteArray.empty)
    | .slice b o n _ => if n = 0 then some (.str ByteArray.empty) else match (σ.get b).cs? with
      | some cs => if o + n ≤ cs.length then match toInts ((cs.drop o).take n) with
        | some ns => some (.str (strOf ns))
        | none => none
        else none
      | none => none
    | _ => none
  | .no => none
theorem ok_conv {src dst : Nat} {x v : AV} {x' : Value} (h : HR ρ σ w) (hx : VR ρ x x') (e : aConv P src dst x σ = some v) : Ok P (convert src dst x') ρ σ w v σ := by
  unfold aConv at e
  cases hk : cvK P src dst with
  | no => rw [hk] at e; cases e
  | int k =>
    rw [hk] at e
    simp only at e
    split at e
    · cases e; cases hx
      unfold cvK at hk
      split at hk <;> (try cases hk)
      · rename_i h1 h2
        exact .same h (by simp [convert, run_underlying h1, run_underlying h2, Conv.intToInt]) (.int _ _)
      · split at hk <;> cases hk
    · cases e
  | str =>
    rw [hk] at e
    simp only at e
    split at e
    · cases e; cases hx
      unfold cvK at hk
      split at hk <;> (try cases hk)
      · rename_i h1 h2
        exact .same h (by simp [convert, run_underlying h1, run_underlying h2]) (.str _)
      · split at hk <;> cases hk
    · cases e
  | bytes =>
    rw [hk] at e
    simp only at e
    unfold cvK at hk
    split at hk <;> (try cases hk)
    rename_i el h1 h2
    split at hk <;> (try cases hk)
    rename_i h3
    split at e
    · cases e; cases hx
      refine .same h ?_ (.str _)
      rw [run_convert_bytes_string w src dst el none 0 0 h1 h3 h2]
      simp [Conv.bytesToString]
    · rename_i b o n c
      have go0 : ∀ (a : Addr) (k : Nat), (convert src dst (.slice (some a) 0 k)).run P w = .ok (.string ByteArray.empty) w := by
        intro a k
        rw [run_convert_bytes_string w src dst el (some a) 0 k h1 h3 h2]
        simp [Conv.bytesToString, loadCells, loadCellsFrom]
      split at e
      · rename_i hn0
        subst hn0
        cases e
        cases hx with
        | slice hr => exact .same h (go0 _ _) (.str _)
        | slicee => exact .same h (go0 _ _) (.str _)
        | sliceo _ _ _ hn _ => omega
      · rename_i hn0
        split at e
        · rename_i cs hc
          split at e
          · rename_i hle
            split at e
            · rename_i ns hns
              cases e
              have go1 : ∀ (r : R) (k : Nat), ρ b = some r → (convert src dst (.slice (some ⟨r.blk, r.sh + o, none⟩) n k)).run P w = .ok (.string (strOf ns)) w := by
                intro r k hr
                obtain ⟨l, hl, hv, _, _⟩ := h.loadCells (P := P) hr hc hle
                rw [toInts_VRs hv hns] at hl
                rw [run_convert_bytes_string w src dst el _ n k h1 h3 h2]
                exact run_bytesToString w _ n k ns hl
              cases hx with
              | slice hr => exact .same h (go1 _ _ hr) (.str _)
              | slicee => exact absurd rfl hn0
              | sliceo hr hs ho hn hc' =>
                have := go1 _ (‹R›.cap - ‹Nat›) hr
                rename_i r i
                have := go1 r (r.cap - i) hr
                rw [hs, Nat.zero_add] at this
                exact .same h this (.str _)
            · cases e
          · cases e
        · cases e
    · cases e

end Go.Proofs.Yteneafgmcmgahaa.V
