/- Own library, part 22: code over unknown values: what must hold is reckoned, way by way. -/
import Derived.Test.YteneafgmcmgahaaV20
namespace Go.Proofs.Yteneafgmcmgahaa.V
open Go
set_option linter.unusedSimpArgs false
set_option linter.unusedVariables false

variable {P : Program}

-- ------------------------------------------------------------------ which ways part
/-- A plan: where a test's answer is reckoned (k), where both ways are walked (b), where it is to be shown (t: true, f: false); z: all are reckoned from here on; a: both ways, always. -/
inductive Plan where
  | a | z
  | k (s : Plan)
  | t (s : Plan)
  | f (s : Plan)
  | b (s t : Plan)
def condP (o : Option AV) (s : Plan) (A B : Plan → Prop) : Prop :=
  match o with
  | some (.bool c) => match s with
    | .a => (c = true → A .a) ∧ (c = false → B .a)
    | .z => match c with
      | true => A .z
      | false => B .z
    | .k s => match c with
      | true => A s
      | false => B s
    | .t s => c = true ∧ A s
    | .f s => c = false ∧ B s
    | .b s t => (c = true → A s) ∧ (c = false → B t)
  | _ => False
theorem condP_ok {o : Option AV} {s : Plan} {A B : Plan → Prop} (h : condP o s A B) : ∃ c, o = some (.bool c) ∧ (c = true → ∃ s, A s) ∧ (c = false → ∃ s, B s) := by
  unfold condP at h
  split at h
  · rename_i c
    refine ⟨c, rfl, ?_⟩
    cases s with
    | a => exact ⟨fun x => ⟨_, h.1 x⟩, fun x => ⟨_, h.2 x⟩⟩
    | z => cases c <;> simp only at h
           · exact ⟨fun x => (by cases x), fun _ => ⟨_, h⟩⟩
           · exact ⟨fun _ => ⟨_, h⟩, fun x => (by cases x)⟩
    | k s => cases c <;> simp only at h
             · exact ⟨fun x => (by cases x), fun _ => ⟨_, h⟩⟩
             · exact ⟨fun _ => ⟨_, h⟩, fun x => (by cases x)⟩
    | t s => exact ⟨fun _ => ⟨_, h.2⟩, fun x => absurd (h.1.symm.trans x) (by simp)⟩
    | f s => exact ⟨fun x => absurd (h.1.symm.trans x) (by simp), fun _ => ⟨_, h.2⟩⟩
    | b s t => exact ⟨fun x => ⟨_, h.1 x⟩, fun x => ⟨_, h.2 x⟩⟩
  · exact h.elim
/-- What must hold for an operation to succeed, one by one (known ones, by the plan, leave no trace). -/
def allT : List Bool → Plan → (Plan → Prop) → Prop
  | [], s, p => p s
  | g :: r, s, p => match s with
    | .a => g = true ∧ allT r .a p
    | .z => match g with
      | true => allT r .z p
      | false => False
    | .k s => match g with
      | true => allT r s p
      | false => False
    | .t s => g = true ∧ allT r s p
    | _ => False
def allB : List Bool → Bool
  | [] => true
  | g :: r => g && allB r
theorem allT_ok {gs : List Bool} {s : Plan} {p : Plan → Prop} (h : allT gs s p) : allB gs = true ∧ ∃ s, p s := by
  induction gs generalizing s with
  | nil => exact ⟨rfl, _, h⟩
  | cons g r ih =>
    cases s with
    | a =>
      obtain ⟨h1, h2⟩ := h
      obtain ⟨h3, h4⟩ := ih h2
      exact ⟨by simp [allB, h1, h3], h4⟩
    | z =>
      cases g with
      | true =>
        obtain ⟨h3, h4⟩ := ih h
        exact ⟨by simp [allB, h3], h4⟩
      | false => exact h.elim
    | k s =>
      cases g with
      | true =>
        obtain ⟨h3, h4⟩ := ih h
        exact ⟨by simp [allB, h3], h4⟩
      | false => exact h.elim
    | t s =>
      obtain ⟨h1, h2⟩ := h
      obtain ⟨h3, h4⟩ := ih h2
      exact ⟨by simp [allB, h1, h3], h4⟩
    | f s => exact h.elim
    | b s t => exact h.elim
theorem allB_cons {g : Bool} {r : List Bool} (h : allB (g :: r) = true) : g = true ∧ allB r = true := by simpa [allB] using h
theorem allB_one {g : Bool} (h : allB [g] = true) : g = true := (allB_cons h).1

-- ------------------------------------------------------------------ cells of which only the kind is known
def AV.toI : AV → Int
  | .int _ n => n
  | _ => 0
def AV.toB : AV → Bool
  | .bool b => b
  | _ => false
def AV.toS : AV → ByteArray
  | .str s => s
  | _ => ByteArray.empty
def AV.isI (k : IntKind) : AV → Bool
  | .int j _ => decide (j = k)
  | _ => false
def AV.isB : AV → Bool
  | .bool _ => true
  | _ => false
def AV.isS : AV → Bool
  | .str _ => true
  | _ => false
theorem AV.isI_ok {k : IntKind} {v : AV} (h : v.isI k = true) : v = .int k v.toI := by
  cases v <;> first | (cases h; done) | skip
  rename_i j n
  have : j = k := by simpa [AV.isI] using h
  subst this; rfl
theorem AV.isB_ok {v : AV} (h : v.isB = true) : v = .bool v.toB := by cases v <;> first | rfl | cases h
theorem AV.isS_ok {v : AV} (h : v.isS = true) : v = .str v.toS := by cases v <;> first | rfl | cases h
/-- A cell, read as its type's zero tells. -/
def asZ (z x : AV) : List Bool × AV :=
  match z with
  | .int k _ => ([x.isI k], .int k x.toI)
  | .bool _ => ([x.isB], .bool x.toB)
  | .str _ => ([x.isS], .str x.toS)
  | _ => ([], x)
theorem asZ_ok {z x : AV} (h : allB (asZ z x).1 = true) : (asZ z x).2 = x := by
  unfold asZ at h ⊢
  cases z <;> simp only at h ⊢
  · exact (AV.isB_ok (allB_one h)).symm
  · exact (AV.isI_ok (allB_one h)).symm
  · exact (AV.isS_ok (allB_one h)).symm
/-- Cells from a place on. -/
def cellsZ (cs : List AV) : List AV → Nat → List Bool × List AV
  | [], _ => ([], [])
  | z :: r, o => ((asZ z (cs.getD o unk)).1 ++ (cellsZ cs r (o + 1)).1, (asZ z (cs.getD o unk)).2 :: (cellsZ cs r (o + 1)).2)
theorem allB_append {a b : List Bool} (h : allB (a ++ b) = true) : allB a = true ∧ allB b = true := by
  induction a with
  | nil => exact ⟨rfl, h⟩
  | cons g r ih =>
    obtain ⟨h1, h2⟩ := allB_cons h
    obtain ⟨h3, h4⟩ := ih h2
    exact ⟨by simp [allB, h1, h3], h4⟩
theorem cellsZ_ok {cs : List AV} : ∀ {zs : List AV} {o : Nat}, allB (cellsZ cs zs o).1 = true → o + zs.length ≤ cs.length → (cellsZ cs zs o).2 = (cs.drop o).take zs.length
  | [], o, _, _ => by simp [cellsZ]
  | z :: r, o, h, hl => by
    simp only [cellsZ] at h ⊢
    obtain ⟨h1, h2⟩ := allB_append h
    simp only [List.length_cons] at hl
    rw [asZ_ok h1, cellsZ_ok h2 (by omega)]
    have ho : o < cs.length := by omega
    rw [List.drop_eq_getElem_cons ho, List.length_cons, List.take_succ_cons]
    congr 1
    simp [List.getD_eq_getElem?_getD, List.getElem?_eq_getElem ho]

-- ------------------------------------------------------------------ operations whose success hangs on unknown numbers
abbrev G := Option (List Bool × AV × AH)
def gLift (o : Option (AV × AH)) : G := match o with
  | some (v, σ) => some ([], v, σ)
  | none => none
def gRet (σ : AH) (o : Option AV) : G := match o with
  | some v => some ([], v, σ)
  | none => none
def gBin (P : Program) (cst yc : Bool) (op : BinOp) (t : Nat) (x y : AV) (σ : AH) : G :=
  match yc with
  | true => gRet σ (aBin P cst op t x y)
  | false => match x, y with
    | .int k a, .int k' b => match op with
      | .shl => some ([decide (0 ≤ b)], .int k (k.wrap (a * 2 ^ min b.toNat k.bits)), σ)
      | .shr => some ([decide (0 ≤ b)], .int k (a / 2 ^ min b.toNat k.bits), σ)
      | .quo => if k = k' then some ([!decide (b = 0)], .int k (k.wrap (a.tdiv b)), σ) else none
      | .rem => if k = k' then some ([!decide (b = 0)], .int k (a.tmod b), σ) else none
      | _ => gRet σ (aBin P cst op t x y)
    | _, _ => gRet σ (aBin P cst op t x y)
def symP (sy : List Nat) : Operand → Bool
  | .tmp t => memN t sy
  | _ => false
def gIndexAddr (P : Program) (t : Nat) (x ix : AV) (σ : AH) : G :=
  match ix with
  | .int _ i => match x with
    | .ptr b o => match arrT P t with
      | some (n, e) => match szT P e with
        | some z => some ([decide (0 ≤ i ∧ i < (n : Int))], .ptr b (o + i.toNat * z), σ)
        | none => none
      | none => none
    | .slice b o n _ => match sliT P t with
      | some e => match szT P e with
        | some z => some ([decide (0 ≤ i ∧ i < (n : Int))], .ptr b (o + i.toNat * z), σ)
        | none => none
      | none => none
    | _ => none
  | _ => none
def gLoad (P : Program) (t : Nat) (a : AV) (σ : AH) : G :=
  match a with
  | .ptr b o => match (σ.get b).cs?, aggT P t, zeroT P t with
    | some cs, some false, some [z] => some (decide (o < cs.length) :: (asZ z (cs.getD o unk)).1, (asZ z (cs.getD o unk)).2, σ)
    | some cs, some true, some zs => match szT P t with
      | some n => if n = zs.length then some (decide (o + n ≤ cs.length) :: (cellsZ cs zs o).1, .agg (cellsZ cs zs o).2, σ) else none
      | none => none
    | _, _, _ => none
  | _ => none
def gStore (P : Program) (t : Nat) (a v : AV) (σ : AH) : G :=
  match a with
  | .ptr b o => match (σ.get b).wr, (σ.get b).cs?, szT P t with
    | true, some cs, some n => if v.cells.length = n ∧ v.cells.all AV.one = true then some ([decide (o + n ≤ cs.length)], unk, σ.set b ((σ.get b).upd (splice cs o v.cells))) else none
    | _, _, _ => none
  | _ => none
/-- An element of an array by value, or a byte of a string. -/
def gIndex (P : Program) (t : Nat) (x ix : AV) (σ : AH) : G :=
  match ix with
  | .int _ i => match x with
    | .agg cs => match arrT P t with
      | some (n, e) => match szT P e, aggT P e, zeroT P e with
        | some z, some false, some [z0] => some (decide (0 ≤ i ∧ i < (n : Int)) :: decide (i.toNat * z < cs.length) :: (asZ z0 (cs.getD (i.toNat * z) unk)).1, (asZ z0 (cs.getD (i.toNat * z) unk)).2, σ)
        | some z, some true, some zs => if z = zs.length then some (decide (0 ≤ i ∧ i < (n : Int)) :: decide (i.toNat * z + z ≤ cs.length) :: (cellsZ cs zs (i.toNat * z)).1, .agg (cellsZ cs zs (i.toNat * z)).2, σ) else none
        | _, _, _ => none
      | none => none
    | .str s => match isStr P t with
      | true => some ([decide (0 ≤ i ∧ i < (s.size : Int))], .int .u8 (s.data.toList.getD i.toNat 0).toNat, σ)
      | false => none
    | _ => none
  | _ => none
def gBounds (cap : Nat) (len : Nat) (lo hi : Option AV) : Option (List Bool × Nat × Nat) :=
  match lo, hi with
  | none, none => some ([decide (len ≤ cap)], 0, len)
  | none, some (.int _ h) => some ([decide (0 ≤ h ∧ h ≤ (cap : Int))], 0, h.toNat)
  | some (.int _ l), none => some ([decide (0 ≤ l ∧ l ≤ (len : Int)), decide (len ≤ cap)], l.toNat, len)
  | some (.int _ l), some (.int _ h) => some ([decide (0 ≤ h ∧ h ≤ (cap : Int)), decide (0 ≤ l ∧ l ≤ h)], l.toNat, h.toNat)
  | _, _ => none
def gSlice (P : Program) (t : Nat) (x : AV) (lo hi mx : Option AV) (σ : AH) : G :=
  match x, mx with
  | .str s, none => match isStr P t with
    | true => match gBounds s.size s.size lo hi with
      | some (gs, l, h) => some (gs, .str (s.extract l h), σ)
      | none => none
    | false => none
  | .slice b o n (some c), none => match sliT P t with
    | some e => match szT P e with
      | some z => match gBounds c n lo hi with
        | some (gs, l, h) => some (gs, .slice b (if c = l then o else o + l * z) (h - l) (some (c - l)), σ)
        | none => none
      | none => none
    | none => none
  | .slice b o n none, none => match sliT P t with
    | some e => match szT P e with
      | some z => match gBounds n n lo hi with
        | some (gs, l, h) => match σ.get b with
          | .opn _ z' _ => if z' = z then some (decide (0 < n) :: gs, .slice b (o + l * z) (h - l) none, σ) else none
          | _ => none
        | none => none
      | none => none
    | none => none
  | _, _ => gRet σ (aSlice P t x lo hi mx σ)
/-- append to a block that grows, whose length is not known: what must hold is asked for. -/
def gAppend (P : Program) (t tx : Nat) (s x : AV) (σ : AH) : G := match s with
  | .slice b o n none => match sliT P t with
    | some e => match szT P e, byT P e, zeroT P e, nintT P tx with
      | some z, some by_, some zc, true => match aSrc z x σ with
        | some (n2, new) => match σ.get b with
          | .opn e' z' cs => if 0 < z ∧ 0 < by_ ∧ zc.length = z ∧ 0 < n2 ∧ e' = e ∧ z' = z ∧ o = 0 ∧ new.all AV.one = true then
              some ([decide (0 < n), decide (n * z = cs.length), decide ((n + n2) * by_ ≤ 140737488355328), decide (n + n2 ≤ 140737488355328)], .slice σ.nx 0 (n + n2) none, (σ.set b .dead).push (.opn e z (cs ++ new)))
            else gLift (aAppend P t tx s x σ)
          | _ => gLift (aAppend P t tx s x σ)
        | none => none
      | _, _, _, _ => none
    | none => none
  | .slice b o 0 (some 0) => match x with
    | .slice b' o' n' k => match sliT P t with
      | some e => match szT P e, byT P e, zeroT P e, nintT P tx with
        | some z, some by_, some zc, true => match (σ.get b').cs? with
          | some cs => if 0 < z ∧ 0 < by_ ∧ zc.length = z then
              some ([decide (0 < n'), decide (o' + n' * z ≤ cs.length), decide (n' * by_ ≤ 140737488355328), decide (n' ≤ 140737488355328)], .slice σ.nx 0 n' none, σ.push (.opn e z ((cs.drop o').take (n' * z))))
            else none
          | none => gLift (aAppend P t tx s x σ)
        | _, _, _, _ => none
      | none => none
    | _ => gLift (aAppend P t tx s x σ)
  | _ => gLift (aAppend P t tx s x σ)
/-- The string of a row of unknown bytes. -/
def gConv (P : Program) (src dst : Nat) (x : AV) (σ : AH) : G := match x with
  | .slice b o n none => match cvK P src dst with
    | .bytes => match (σ.get b).cs? with
      | some cs => some ([!decide (n = 0), decide (o + n ≤ cs.length), (toInts ((cs.drop o).take n)).isSome], .str (strOf ((toInts ((cs.drop o).take n)).getD [])), σ)
      | none => none
    | _ => none
  | _ => gRet σ (aConv P src dst x σ)
def gop (P : Program) (sy : List Nat) (op : Op) (ev : Operand → Option AV) (σ : AH) : G :=
  match op with
  | .convert s t x => match ev x with
    | some a => gConv P s t a σ
    | none => none
  | .binOp bo t x y _ => match ev x, ev y with
    | some a, some b => gBin P (isC x || isC y) (isC y) bo t a b σ
    | _, _ => none
  | .indexAddr t x i => match ev x, ev i with
    | some a, some b => match (sliT P t).isSome || !isC i with
      | true => gIndexAddr P t a b σ
      | false => gRet σ (aIndexAddr P t a b)
    | _, _ => none
  | .index t x i => match ev x, ev i with
    | some a, some b => match !isC i with
      | true => gIndex P t a b σ
      | false => gRet σ (aIndex P t a b)
    | _, _ => none
  | .load t x => match ev x with
    | some a => match symP sy x with
      | true => gLoad P t a σ
      | false => gRet σ (aLoadG P t a σ)
    | none => none
  | .store t x y => match symP sy x with
    | true => match ev x, ev y with
      | some a, some v => gStore P t a v σ
      | _, _ => none
    | false => gLift (aop P (.store t x y) ev σ)
  | .slice t x lo hi mx => match ev x, evo ev lo, evo ev hi, evo ev mx with
    | some v, some a, some b, some c => gSlice P t v a b c σ
    | _, _, _, _ => none
  | .call c => match c.callee with
    | .builtin .append => match evs ev c.args.toList, c.argTypes.toList with
      | some [s, x], [t, tx] => gAppend P t tx s x σ
      | _, _ => gLift (aop P (.call c) ev σ)
    | _ => gLift (aop P (.call c) ev σ)
  | op => gLift (aop P op ev σ)

theorem gLift_ok {o : Option (AV × AH)} {gs : List Bool} {v : AV} {τ : AH} (h : gLift o = some (gs, v, τ)) : o = some (v, τ) := by
  unfold gLift at h
  split at h
  · cases h; rfl
  · cases h
theorem gRet_ok {σ : AH} {o : Option AV} {gs : List Bool} {v : AV} {τ : AH} (h : gRet σ o = some (gs, v, τ)) : o = some v ∧ τ = σ := by
  unfold gRet at h
  split at h
  · cases h; exact ⟨rfl, rfl⟩
  · cases h
theorem gBin_ok {cst yc : Bool} {op : BinOp} {t : Nat} {x y v : AV} {σ τ : AH} {gs : List Bool} (h : gBin P cst yc op t x y σ = some (gs, v, τ)) (hg : allB gs = true) : aBin P cst op t x y = some v ∧ τ = σ := by
  unfold gBin at h
  split at h
  · exact gRet_ok h
  · split at h
    · split at h
      · cases h
        have := allB_one hg
        simp only [decide_eq_true_eq] at this
        exact ⟨by simp [aBin, aShift, this], rfl⟩
      · cases h
        have := allB_one hg
        simp only [decide_eq_true_eq] at this
        exact ⟨by simp [aBin, aShift, this], rfl⟩
      · split at h
        · rename_i hk
          cases h
          have := allB_one hg
          simp only [Bool.not_eq_true', decide_eq_false_iff_not] at this
          exact ⟨by simp [aBin, aInt, hk, this], rfl⟩
        · cases h
      · split at h
        · rename_i hk
          cases h
          have := allB_one hg
          simp only [Bool.not_eq_true', decide_eq_false_iff_not] at this
          exact ⟨by simp [aBin, aInt, hk, this], rfl⟩
        · cases h
      · exact gRet_ok h
    · exact gRet_ok h
theorem gIndexAddr_ok {t : Nat} {x ix v : AV} {σ τ : AH} {gs : List Bool} (h : gIndexAddr P t x ix σ = some (gs, v, τ)) (hg : allB gs = true) : aIndexAddr P t x ix = some v ∧ τ = σ := by
  unfold gIndexAddr at h
  unfold aIndexAddr
  split at h
  · split at h
    · split at h
      · split at h
        · cases h
          have := allB_one hg
          simp only [decide_eq_true_eq] at this
          simp [*]
        · cases h
      · cases h
    · split at h
      · split at h
        · cases h
          have := allB_one hg
          simp only [decide_eq_true_eq] at this
          simp [*]
        · cases h
      · cases h
    · cases h
  · cases h
theorem getD_of_lt {cs : List AV} {o : Nat} (h : o < cs.length) : cs[o]? = some (cs.getD o unk) := by
  simp [List.getD_eq_getElem?_getD, List.getElem?_eq_getElem h]
theorem gLoad_ok {t : Nat} {a v : AV} {σ τ : AH} {gs : List Bool} (h : gLoad P t a σ = some (gs, v, τ)) (hg : allB gs = true) : aLoad P t a σ = some v ∧ τ = σ := by
  unfold gLoad at h
  unfold aLoad
  split at h
  · rename_i b o
    split at h
    · rename_i cs z h1 h2 h3
      cases h
      obtain ⟨g1, g2⟩ := allB_cons hg
      simp only [decide_eq_true_eq] at g1
      simp only [h1, h2]
      rw [asZ_ok g2]
      exact ⟨getD_of_lt g1, trivial⟩
    · rename_i cs zs h1 h2 h3
      split at h
      · rename_i n hn
        split at h
        · rename_i hz
          cases h
          obtain ⟨g1, g2⟩ := allB_cons hg
          simp only [decide_eq_true_eq] at g1
          simp only [h1, h2, hn]
          rw [if_pos g1, cellsZ_ok g2 (by omega), hz]
          exact ⟨rfl, trivial⟩
        · cases h
      · cases h
    · cases h
  · cases h
theorem gStore_ok {t : Nat} {a v u : AV} {σ τ : AH} {gs : List Bool} (h : gStore P t a v σ = some (gs, u, τ)) (hg : allB gs = true) : aStore P t a v σ = some τ ∧ u = unk := by
  unfold gStore at h
  unfold aStore
  split at h
  · split at h
    · rename_i h1 h2 h3
      split at h
      · rename_i hq
        cases h
        have := allB_one hg
        simp only [decide_eq_true_eq] at this
        simp only [h1, h2, h3]
        rw [if_pos ⟨hq.1, this, hq.2⟩]
        exact ⟨rfl, trivial⟩
      · cases h
    · cases h
  · cases h
theorem gIndex_ok {t : Nat} {x ix v : AV} {σ τ : AH} {gs : List Bool} (h : gIndex P t x ix σ = some (gs, v, τ)) (hg : allB gs = true) : aIndex P t x ix = some v ∧ τ = σ := by
  unfold gIndex at h
  unfold aIndex
  split at h
  · split at h
    · rename_i cs
      split at h
      · rename_i n e ha
        split at h
        · rename_i z z0 h1 h2 h3
          cases h
          obtain ⟨g1, g2⟩ := allB_cons hg
          obtain ⟨g3, g4⟩ := allB_cons g2
          simp only [decide_eq_true_eq] at g1 g3
          simp only [ha, h1]
          rw [if_pos g1, asZ_ok g4]
          unfold aPart
          simp only [h2]
          exact ⟨getD_of_lt g3, trivial⟩
        · rename_i z zs h1 h2 h3
          split at h
          · rename_i hz
            cases h
            obtain ⟨g1, g2⟩ := allB_cons hg
            obtain ⟨g3, g4⟩ := allB_cons g2
            simp only [decide_eq_true_eq] at g1 g3
            simp only [ha, h1]
            rw [if_pos g1, cellsZ_ok g4 (by omega)]
            unfold aPart
            simp only [h2, h1, ← hz]
            exact ⟨trivial, trivial⟩
          · cases h
        · cases h
      · cases h
    · rename_i s
      split at h
      · rename_i hs
        cases h
        have := allB_one hg
        simp only [decide_eq_true_eq] at this
        simp only [hs]
        rw [dif_pos this]
        refine ⟨?_, trivial⟩
        congr 3
        have hlt : _ < s.data.toList.length := (by simpa using (by omega : ‹Int›.toNat < s.size))
        rw [List.getD_eq_getElem?_getD, List.getElem?_eq_getElem hlt]
        rfl
      · cases h
    · cases h
  · cases h
theorem gBounds_ok {cap len l h : Nat} {lo hi : Option AV} {gs : List Bool} (e : gBounds cap len lo hi = some (gs, l, h)) (hg : allB gs = true) : aBounds len cap lo hi none = some (l, h, cap) := by
  unfold gBounds at e
  unfold aBounds
  split at e
  · cases e
    simp
  · cases e
    have := allB_one hg
    simp only [decide_eq_true_eq] at this
    simp [this]
  · cases e
    obtain ⟨g1, g2⟩ := allB_cons hg
    simp only [decide_eq_true_eq] at g1
    simp [g1]
  · cases e
    obtain ⟨g1, g2⟩ := allB_cons hg
    have g3 := allB_one g2
    simp only [decide_eq_true_eq] at g1 g3
    have h1 : ∀ i : Int, 0 ≤ i → ((i.toNat : Nat) : Int) = i := fun i hi => by omega
    simp [g1, g3, h1 _ g1.1]
  · cases e
theorem gSlice_ok {t : Nat} {x v : AV} {lo hi mx : Option AV} {σ τ : AH} {gs : List Bool} (h : gSlice P t x lo hi mx σ = some (gs, v, τ)) (hg : allB gs = true) : aSlice P t x lo hi mx σ = some v ∧ τ = σ := by
  unfold gSlice at h
  split at h
  · split at h
    · rename_i hs
      split at h
      · rename_i gs' l h' hb
        cases h
        unfold aSlice
        simp only [hs, gBounds_ok hb hg]
        exact ⟨trivial, trivial⟩
      · cases h
    · cases h
  · split at h
    · rename_i e hs
      split at h
      · rename_i z hz
        split at h
        · rename_i gs' l h' hb
          cases h
          unfold aSlice
          simp only [hs, hz, gBounds_ok hb hg]
          exact ⟨trivial, trivial⟩
        · cases h
      · cases h
    · cases h
  · rename_i b o n
    split at h
    · rename_i e hs
      split at h
      · rename_i z hz
        split at h
        · rename_i gs' l h' hb
          split at h
          · rename_i e' z' cs hget
            split at h
            · rename_i hzz
              cases h
              obtain ⟨g1, hg⟩ := allB_cons hg
              simp only [decide_eq_true_eq] at g1
              unfold aSlice
              simp only [hs, hz, gBounds_ok hb hg, hget]
              rw [if_neg (by omega), if_pos hzz]
              exact ⟨rfl, by trivial⟩
            · cases h
          · cases h
        · cases h
      · cases h
    · cases h
  · exact gRet_ok h
theorem gAppend_ok {t tx : Nat} {s x v : AV} {σ τ : AH} {gs : List Bool} (h : gAppend P t tx s x σ = some (gs, v, τ)) (hg : allB gs = true) : aAppend P t tx s x σ = some (v, τ) := by
  unfold gAppend at h
  split at h
  · rename_i b o n
    split at h
    · rename_i e he
      split at h
      · rename_i z by_ zc h1 h2 h3 h4
        split at h
        · rename_i n2 new hsrc
          split at h
          · rename_i e' z' cs hb
            split at h
            · rename_i hq
              cases h
              obtain ⟨q1, q2, q3, q4, q5, q6, q7, q8⟩ := hq
              obtain ⟨g1, hg⟩ := allB_cons hg
              obtain ⟨g2, hg⟩ := allB_cons hg
              obtain ⟨g3, hg⟩ := allB_cons hg
              have g4 := allB_one hg
              simp only [decide_eq_true_eq] at g1 g2 g3 g4
              unfold aAppend
              simp only [he, h1, h2, h3, h4, hsrc, hb]
              rw [if_pos ⟨q1, q2, q3⟩, if_neg (by omega), if_pos ⟨q5, q6, q7, g1, g2, g3, g4, q8⟩]
            · exact gLift_ok h
          · exact gLift_ok h
        · cases h
      · cases h
    · cases h
  · rename_i b o
    split at h
    · rename_i b' o' n' k
      split at h
      · rename_i e he
        split at h
        · rename_i z by_ zc h1 h2 h3 h4
          split at h
          · rename_i cs hcs
            split at h
            · rename_i hq
              cases h
              obtain ⟨q1, q2, q3⟩ := hq
              obtain ⟨g1, hg⟩ := allB_cons hg
              obtain ⟨g2, hg⟩ := allB_cons hg
              obtain ⟨g3, hg⟩ := allB_cons hg
              have g4 := allB_one hg
              simp only [decide_eq_true_eq] at g1 g2 g3 g4
              have hsrc : aSrc z (.slice b' o' n' k) σ = some (n', (cs.drop o').take (n' * z)) := by
                unfold aSrc
                simp only [hcs]
                rw [if_neg (by omega), if_pos g2]
              unfold aAppend
              simp only [he, h1, h2, h3, h4, hsrc]
              rw [if_pos ⟨q1, q2, q3⟩, if_neg (by omega), if_pos (by rw [Nat.zero_add]; exact ⟨g3, g4⟩), if_pos trivial]
            · cases h
          · exact gLift_ok h
        · cases h
      · cases h
    · exact gLift_ok h
  · exact gLift_ok h
theorem gConv_ok {src dst : Nat} {x v : AV} {σ τ : AH} {gs : List Bool} (h : gConv P src dst x σ = some (gs, v, τ)) (hg : allB gs = true) : aConv P src dst x σ = some v ∧ τ = σ := by
  unfold gConv at h
  split at h
  · split at h
    · rename_i hk
      split at h
      · rename_i cs hc
        cases h
        obtain ⟨g1, hg⟩ := allB_cons hg
        obtain ⟨g2, hg⟩ := allB_cons hg
        have g3 := allB_one hg
        simp only [Bool.not_eq_true', decide_eq_false_iff_not, decide_eq_true_eq] at g1 g2
        obtain ⟨ns, hns⟩ := Option.isSome_iff_exists.1 g3
        unfold aConv
        simp only [hk, hc, hns]
        rw [if_neg g1, if_pos g2]
        exact ⟨rfl, trivial⟩
      · cases h
    · cases h
  · exact gRet_ok h
theorem gop_ok {sy : List Nat} {op : Op} {ev : Operand → Option AV} {σ τ : AH} {gs : List Bool} {v : AV} (h : gop P sy op ev σ = some (gs, v, τ)) (hg : allB gs = true) : aop P op ev σ = some (v, τ) := by
  unfold gop at h
  split at h
  · split at h
    · rename_i a h1
      obtain ⟨e1, rfl⟩ := gConv_ok h hg
      simp only [aop, un1, h1, e1, retV]
    · cases h
  · split at h
    · rename_i a b h1 h2
      obtain ⟨e1, rfl⟩ := gBin_ok h hg
      simp only [aop, un2, h1, h2, e1, retV]
    · cases h
  · split at h
    · rename_i a b h1 h2
      split at h
      · obtain ⟨e1, rfl⟩ := gIndexAddr_ok h hg
        simp only [aop, un2, h1, h2, e1, retV]
      · obtain ⟨e1, rfl⟩ := gRet_ok h
        simp only [aop, un2, h1, h2, e1, retV]
    · cases h
  · split at h
    · rename_i a b h1 h2
      split at h
      · obtain ⟨e1, rfl⟩ := gIndex_ok h hg
        simp only [aop, un2, h1, h2, e1, retV]
      · obtain ⟨e1, rfl⟩ := gRet_ok h
        simp only [aop, un2, h1, h2, e1, retV]
    · cases h
  · split at h
    · rename_i a h1
      split at h
      · obtain ⟨e1, rfl⟩ := gLoad_ok h hg
        simp only [aop, un1, h1, aLoadG_of e1, retV]
      · obtain ⟨e1, rfl⟩ := gRet_ok h
        simp only [aop, un1, h1, e1, retV]
    · cases h
  · split at h
    · split at h
      · rename_i a u h1 h2
        obtain ⟨e1, rfl⟩ := gStore_ok h hg
        simp only [aop, un2, h1, h2, e1]
      · cases h
    · exact gLift_ok h
  · split at h
    · rename_i h1 h2 h3 h4
      obtain ⟨e1, rfl⟩ := gSlice_ok h hg
      simp only [aop, h1, h2, h3, h4, e1, retV]
    · cases h
  · split at h
    · rename_i hc
      split at h
      · rename_i h1 h2
        have e1 := gAppend_ok h hg
        simp only [aop, hc, h1, h2, aBuiltin, e1]
      · exact gLift_ok h
    · exact gLift_ok h
  · exact gLift_ok h
end Go.Proofs.Yteneafgmcmgahaa.V
