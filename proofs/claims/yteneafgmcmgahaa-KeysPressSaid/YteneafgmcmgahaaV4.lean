/- Own library, part 4: slices, numbers, comparisons, conversions, built-in functions over abstract values. -/
import Derived.Test.YteneafgmcmgahaaV3
namespace Go.Proofs.Yteneafgmcmgahaa.V
open Go
set_option linter.unusedSimpArgs false
set_option linter.unusedVariables false

variable {P : Program} {ρ : Ren} {σ : AH} {w : World}

theorem ok_slice {t : Nat} {x v : AV} {lo hi mx : Option AV} {x' : Value} {lo' hi' mx' : Option Value} (h : HR ρ σ w) (hx : VR ρ x x') (hl : VO ρ lo lo') (hh : VO ρ hi hi') (hm : VO ρ mx mx')
    (e : aSlice P t x lo hi mx σ = some v) : Ok P (Instr.sliceAt t x' lo' hi' mx') ρ σ w v σ := by
  unfold aSlice at e
  split at e
  · -- a string
    rename_i s
    split at e
    · rename_i hs
      have hu := isStr_u hs
      split at e
      · rename_i l hh' m hb
        cases e
        cases hx
        cases mx' with
        | some _ => exact hm.elim
        | none =>
          obtain ⟨hr, _⟩ := run_bounds (P := P) (isS := false) (mx := none) (mx' := none) hl hh trivial (Nat.le_refl _) hb w
          refine .same h ?_ (.str _)
          simp only [Instr.sliceAt, Sem.run_bind, run_underlying hu, Result.andThen_ok, Instr.slice, Option.isSome_none, Bool.false_eq_true, if_false]
          simp [hr]
      · cases e
    · cases e
  · -- an array
    rename_i b o
    split at e
    · rename_i n el ha
      have hu := arrT_u ha
      split at e
      · rename_i z l hi2 m hz hb
        cases e
        cases hx with
        | ptr hr =>
          rename_i r
          obtain ⟨hrun, _, _, hmc, _, _⟩ := run_bounds (P := P) (isS := false) hl hh hm (Nat.le_refl _) hb w
          have hme : (if mx.isNone = true then n else m) = m := by
            cases mx with
            | none => simp [hmc rfl]
            | some _ => simp
          rw [hme] at hrun
          have := VR.slice (ρ := ρ) (o := if m = l then o else o + l * z) (n := hi2 - l) (c := m - l) hr
          refine .same h ?_ this
          simp only [Instr.sliceAt, Sem.run_bind, run_underlying hu, Result.andThen_ok, Instr.sureAddr, Sem.run_pure, hrun, run_szT hz]
          split <;> simp [Addr.add_lit, Nat.add_assoc]
      · cases e
    · cases e
  · -- nil
    split at e
    · rename_i el ha
      have hu := sliT_u ha
      split at e
      · rename_i z q hz hb
        cases e
        cases hx
        obtain ⟨l, hi2, m⟩ := q
        obtain ⟨hrun, h1, h2, hmc, hm2, h3⟩ := run_bounds (P := P) (isS := true) hl hh hm (Nat.le_refl _) hb w
        have hme : (if mx.isNone = true then 0 else m) = 0 := by
          cases mx with
          | none => rfl
          | some _ => simp; omega
        rw [hme] at hrun
        have hm0 : m = 0 := by omega
        have hi0 : hi2 = 0 := by
          cases hi with
          | none => exact h3 rfl
          | some _ => have := h2 (.inl (by simp)); omega
        have hl0 : l = 0 := by omega
        subst hi0 hl0
        refine .same h ?_ .nilslice
        simp only [Instr.sliceAt, Sem.run_bind, run_underlying hu, Result.andThen_ok, Instr.slice, hrun, run_szT hz, Sem.run_pure]
        rfl
      · cases e
    · cases e
  · -- closed
    rename_i b o n c
    split at e
    · rename_i el ha
      have hu := sliT_u ha
      split at e
      · rename_i z l hi2 m hz hb
        cases e
        cases hx with
        | slice hr =>
          rename_i r
          obtain ⟨hrun, _, _, hmc, _, _⟩ := run_bounds (P := P) (isS := true) hl hh hm (Nat.le_refl _) hb w
          have hme : (if mx.isNone = true then c else m) = m := by
            cases mx with
            | none => simp [hmc rfl]
            | some _ => simp
          rw [hme] at hrun
          have := VR.slice (ρ := ρ) (o := if m = l then o else o + l * z) (n := hi2 - l) (c := m - l) hr
          refine .same h ?_ this
          simp only [Instr.sliceAt, Sem.run_bind, run_underlying hu, Result.andThen_ok, Instr.slice, hrun, run_szT hz, Sem.run_pure]
          split <;> simp [Addr.add_lit, Nat.add_assoc]
      · cases e
    · cases e
  · -- a row that grew
    rename_i b o n
    split at e
    · rename_i el ha
      have hu := sliT_u ha
      split at e
      · rename_i z l hi2 m hz hb
        have gen : ∀ (a : Option Addr) (cap : Nat), n ≤ cap → (Instr.sliceAt t (.slice a n cap) lo' hi' mx').run P w =
            .ok (.slice (if (if mx.isNone = true then cap else m) = l then a else a.map (·.add (l * z))) (hi2 - l) ((if mx.isNone = true then cap else m) - l)) w := by
          intro a cap hc
          obtain ⟨hrun, _⟩ := run_bounds (P := P) (isS := true) hl hh hm hc hb w
          simp only [Instr.sliceAt, Sem.run_bind, run_underlying hu, Result.andThen_ok, Instr.slice, hrun, run_szT hz, Sem.run_pure]
        obtain ⟨_, h1, h2, hmc, hm2, h3⟩ := run_bounds (P := P) (isS := true) hl hh hm (Nat.le_refl _) hb w
        have hin : hi2 ≤ n := by
          cases hi with
          | none => exact Nat.le_of_eq (h3 rfl)
          | some _ => have := h2 (.inl (by simp)); omega
        split at e
        · rename_i hn0
          cases e
          subst hn0
          have : hi2 - l = 0 := by omega
          cases hx with
          | slicee =>
            rename_i a k
            have q : ∀ M : Nat, VR ρ (.slice b o 0 none) (.slice (if M = l then some a else (some a).map (·.add (l * z))) 0 (M - l)) := fun M => by
              by_cases q : M = l <;> simp only [q, if_true, if_false, Option.map_some] <;> exact .slicee
            refine .same h (gen (some a) k (Nat.zero_le _)) ?_
            rw [this]
            exact q _
          | sliceo _ _ _ hn _ => omega
        · rename_i hn0
          cases hx with
          | slicee => exact absurd rfl hn0
          | sliceo hr hs ho hn hc =>
            rename_i r i
            have hg := gen (some ⟨r.blk, o, none⟩) (r.cap - i) (by omega)
            split at e
            · cases e
              refine .same h hg ?_
              simp only [Option.isNone_some, Bool.false_eq_true, if_false]
              have := VR.slice (ρ := ρ) (o := if m = l then o else o + l * z) (n := hi2 - l) (c := m - l) hr
              simp only [hs, Nat.zero_add] at this
              split <;> simp_all [Addr.add_lit]
            · split at e
              · rename_i e' z' cs hget
                split at e
                · rename_i hzz
                  cases e
                  subst hzz
                  by_cases hel : hi2 = l
                  · refine .same h hg ?_
                    rw [show hi2 - l = 0 by omega]
                    simp only [Option.isNone_none, if_true]
                    split <;> exact .slicee
                  · have ho' := h.obj b r hr
                    rw [hget] at ho'
                    obtain ⟨_, hzz, _⟩ := ho'
                    have hne : ¬ (r.cap - i = l) := by omega
                    refine .same h hg ?_
                    simp only [Option.isNone_none, if_true, hne, if_false, Option.map_some, Addr.add_lit]
                    have := VR.sliceo (ρ := ρ) (b := b) (o := o + l * z') (n := hi2 - l) (i := i + l) hr hs (by rw [ho, hzz, Nat.add_mul]) (by omega) (by omega)
                    rw [Nat.sub_add_eq] at this
                    exact this
                · split at e
                  · rename_i hel
                    cases e
                    refine .same h hg ?_
                    rw [show hi2 - l = 0 by omega]
                    simp only [Option.isNone_none, if_true]
                    split <;> exact .slicee
                  · cases e
              · split at e
                · rename_i hel
                  cases e
                  refine .same h hg ?_
                  rw [show hi2 - l = 0 by omega]
                  simp only [Option.isNone_none, if_true]
                  split <;> exact .slicee
                · cases e
      · cases e
    · cases e
  · cases e

-- ------------------------------------------------------------------ equality
def intD : TypeDesc → Bool | .int _ => true | _ => false
def boolD : TypeDesc → Bool | .bool => true | _ => false
/-- The fields of a struct that '==' asks: type, offset. -/
def eqFs (P : Program) (t : Nat) : Option (List (Nat × Nat)) :=
  match P.underlying t with
  | some (.struct fs) => if P.stoodInHeld t then none else some ((fs.toList.filter fun f => f.name != "_").map fun f => (f.type, f.offset))
  | _ => none
/-- What kind of equality a type has. -/
inductive EK where
  | bool | int | string | pointer | slice | map | func | iface | struct (fs : List (Nat × Nat)) | array (n e z : Nat) | no
def eqK (P : Program) (t : Nat) : EK :=
  match P.underlying t with
  | some .bool => .bool
  | some (.int _) => .int
  | some .string => .string
  | some (.pointer _) => .pointer
  | some (.slice _) => .slice
  | some (.map _ _) => .map
  | some (.func _ _ _) => .func
  | some (.interface _) => .iface
  | some (.struct fs) => if P.stoodInHeld t then .no else .struct ((fs.toList.filter fun f => f.name != "_").map fun f => (f.type, f.offset))
  | some (.array n e) => match szT P e with | some z => .array n e z | none => .no
  | _ => .no

def aEqFs (P : Program) (E : Nat → AV → AV → Option Bool) (xs ys : List AV) : List (Nat × Nat) → Option Bool
  | [] => some true
  | (t, o) :: r => match aPart P t xs o, aPart P t ys o with
    | some a, some b => match E t a b, aEqFs P E xs ys r with
      | some c, some c' => some (c && c')
      | _, _ => none
    | _, _ => none
def aEqArr (P : Program) (E : Nat → AV → AV → Option Bool) (e z : Nat) (xs ys : List AV) : Nat → Nat → Option Bool
  | 0, _ => some true
  | n + 1, i => match aPart P e xs (i * z), aPart P e ys (i * z) with
    | some a, some b => match E e a b, aEqArr P E e z xs ys n (i + 1) with
      | some c, some c' => some (c && c')
      | _, _ => none
    | _, _ => none
def aEq (P : Program) : Nat → Nat → AV → AV → Option Bool
  | 0, _, _, _ => none
  | d + 1, t, x, y =>
    match eqK P t with
    | .bool => match x, y with | .bool a, .bool b => some (a == b) | _, _ => none
    | .int => match x, y with | .int k a, .int k' b => if k = k' then some (a == b) else none | _, _ => none
    | .string => match x, y with | .str a, .str b => some (a == b) | _, _ => none
    | .pointer => match x, y with
      | .nilptr, .nilptr => some true
      | .nilptr, .ptr _ _ => some false
      | .ptr _ _, .nilptr => some false
      | _, _ => none
    | .slice => match x, y with
      | .nilslice, .nilslice => some true
      | .nilslice, .slice _ _ _ _ => some false
      | .slice _ _ _ _, .nilslice => some false
      | _, _ => none
    | .map => match x, y with
      | .nilmap, .nilmap => some true
      | .nilmap, .map _ => some false
      | .map _, .nilmap => some false
      | _, _ => none
    | .func => match x, y with
      | .nilFunc, .nilFunc => some true
      | .nilFunc, .func _ _ _ => some false
      | .func _ _ _, .nilFunc => some false
      | _, _ => none
    | .iface => match x, y with
      | .nilIface, .nilIface => some true
      | .nilIface, .iface _ _ => some false
      | .iface _ _, .nilIface => some false
      | _, _ => none
    | .struct fs => match x, y with
      | .agg xs, .agg ys => aEqFs P (aEq P d) xs ys fs
      | _, _ => none
    | .array n e z => match x, y with
      | .agg xs, .agg ys => aEqArr P (aEq P d) e z xs ys n 0
      | _, _ => none
    | .no => none

/-- The model's loop over an array, element by element. -/
def eqElems (d e z : Nat) (xs ys : Array Value) : List Nat → Sem Bool
  | [] => pure true
  | i :: r => do
    let a ← part e xs (i * z)
    let b ← part e ys (i * z)
    let q ← Op.equalIn d e a b
    if (!q) = true then pure false else eqElems d e z xs ys r

theorem run_equalIn_array (d t len e z : Nat) (xs ys : Array Value) (ht : P.underlying t = some (.array len e)) (hz : szT P e = some z) (w : World) :
    (Op.equalIn (d + 1) t (.agg xs) (.agg ys)).run P w = (eqElems d e z xs ys (List.range' 0 len)).run P w := by
  simp only [Op.equalIn, Sem.run_bind, run_underlying ht, Result.andThen_ok, run_szT hz, Std.Legacy.Range.forIn_eq_forIn_range']
  have : List.range' 0 (Std.Legacy.Range.size [0:len]) 1 = List.range' 0 len := by simp [Std.Legacy.Range.size]
  rw [this]
  generalize List.range' 0 len = l
  clear this
  induction l generalizing w with
  | nil => simp [eqElems]
  | cons i l ih =>
    simp only [List.forIn_cons, eqElems, Sem.run_bind]
    generalize (part e xs (i * z)).run P w = r1
    cases r1 with
    | halt x w1 => simp [Result.andThen]
    | ok a w1 =>
      simp only [Result.andThen_ok]
      generalize (part e ys (i * z)).run P w1 = r2
      cases r2 with
      | halt x w2 => simp [Result.andThen]
      | ok b w2 =>
        simp only [Result.andThen_ok]
        generalize (Op.equalIn d e a b).run P w2 = r3
        cases r3 with
        | halt x w3 => simp [Result.andThen]
        | ok q w3 =>
          cases q
          · simp only [Result.andThen_ok, Bool.not_false, if_true, Sem.run_pure, Sem.run_ite]
          · simp only [Result.andThen_ok, Bool.not_true, Bool.false_eq_true, if_false, Sem.run_pure, Sem.run_ite]
            exact ih w3

theorem eqK_spec (t : Nat) : match eqK P t with
    | .bool => P.underlying t = some .bool
    | .int => ∃ k, P.underlying t = some (.int k)
    | .string => P.underlying t = some .string
    | .pointer => ∃ e, P.underlying t = some (.pointer e)
    | .slice => ∃ e, P.underlying t = some (.slice e)
    | .map => ∃ k e, P.underlying t = some (.map k e)
    | .func => ∃ a b c, P.underlying t = some (.func a b c)
    | .iface => ∃ ms, P.underlying t = some (.interface ms)
    | .struct l => ∃ fs, P.underlying t = some (.struct fs) ∧ P.stoodInHeld t = false ∧ l = (fs.toList.filter fun f => f.name != "_").map fun f => (f.type, f.offset)
    | .array n e z => P.underlying t = some (.array n e) ∧ szT P e = some z
    | .no => True := by
  unfold eqK
  cases hu : P.underlying t with
  | none => trivial
  | some d =>
    cases d with
    | struct fs =>
      by_cases hp : P.stoodInHeld t = true
      · simp [hp]
      · simp [hp]
    | array n e =>
      cases hz : szT P e with
      | none => simp [hz]
      | some z => simp [hz]
    | _ => simp

set_option maxHeartbeats 1000000 in
theorem aEq_run : ∀ (f : Nat), (∀ (t : Nat) (x y : AV) (x' y' : Value) (r : Bool) (d : Nat) (w : World), f ≤ d → VR ρ x x' → VR ρ y y' → aEq P f t x y = some r → (Op.equalIn d t x' y').run P w = .ok r w) := by
  intro f
  induction f with
  | zero => intro t x y x' y' r d w hd hx hy e; simp [aEq] at e
  | succ f ih =>
    intro t x y x' y' r d w hd hx hy e
    obtain ⟨d, rfl⟩ : ∃ k, d = k + 1 := ⟨d - 1, by omega⟩
    have hfs : ∀ (l : List Field) (xs ys : List AV) (xs' ys' : List Value) (r : Bool), VRs ρ xs xs' → VRs ρ ys ys' → aEqFs P (aEq P f) xs ys ((l.filter fun f => f.name != "_").map fun f => (f.type, f.offset)) = some r →
        (Op.eqFields d ⟨xs'⟩ ⟨ys'⟩ l).run P w = .ok r w := by
      intro l
      induction l with
      | nil => intro xs ys xs' ys' r _ _ e; simp [aEqFs] at e; subst e; simp [Op.eqFields]
      | cons q l ihl =>
        intro xs ys xs' ys' r hxs hys e
        by_cases hq : q.name = "_"
        · have : (q.name != "_") = false := by simp [hq]
          simp only [List.filter_cons, this, Bool.false_eq_true, if_false] at e
          simp only [Op.eqFields, hq, ne_eq, not_true_eq_false, if_false]
          exact ihl xs ys xs' ys' r hxs hys e
        · have : (q.name != "_") = true := by simp [hq]
          simp only [List.filter_cons, this, if_true, List.map_cons, aEqFs] at e
          split at e
          · rename_i a b ha hb
            split at e
            · rename_i c c' hc hc'
              cases e
              obtain ⟨a', ra, va⟩ := run_part hxs ha w
              obtain ⟨b', rb, vb⟩ := run_part hys hb w
              have rc := ih q.type a b a' b' c d w (by omega) va vb hc
              have rr := ihl xs ys xs' ys' c' hxs hys hc'
              simp only [Op.eqFields, hq, ne_eq, not_false_eq_true, if_true, Sem.run_bind, ra, rb, rc, Result.andThen_ok, Sem.run_ite, Sem.run_pure, rr]
              cases c <;> simp
            · cases e
          · cases e
    have harr : ∀ (n i e z : Nat) (xs ys : List AV) (xs' ys' : List Value) (r : Bool), VRs ρ xs xs' → VRs ρ ys ys' → aEqArr P (aEq P f) e z xs ys n i = some r →
        (eqElems d e z ⟨xs'⟩ ⟨ys'⟩ (List.range' i n)).run P w = .ok r w := by
      intro n
      induction n with
      | zero => intro i e z xs ys xs' ys' r _ _ h; simp [aEqArr] at h; subst h; simp [eqElems]
      | succ n ihn =>
        intro i e z xs ys xs' ys' r hxs hys h
        simp only [aEqArr] at h
        split at h
        · rename_i a b ha hb
          split at h
          · rename_i c c' hc hc'
            cases h
            obtain ⟨a', ra, va⟩ := run_part hxs ha w
            obtain ⟨b', rb, vb⟩ := run_part hys hb w
            have rc := ih e a b a' b' c d w (by omega) va vb hc
            have rr := ihn (i + 1) e z xs ys xs' ys' c' hxs hys hc'
            simp only [List.range'_succ, eqElems, Sem.run_bind, ra, rb, rc, Result.andThen_ok, Sem.run_ite, Sem.run_pure, rr]
            cases c <;> simp
          · cases h
        · cases h
    have sp := eqK_spec (P := P) t
    unfold aEq at e
    cases hk : eqK P t with
    | bool =>
      rw [hk] at e sp; simp only at e sp
      cases hx <;> (try simp only [reduceCtorEq] at e) <;> cases hy <;> (try simp only [reduceCtorEq, Option.some.injEq] at e)
      subst e; exact run_equalIn_bool w d t _ _ sp
    | int =>
      rw [hk] at e sp; simp only at e sp
      obtain ⟨k, sp⟩ := sp
      cases hx <;> (try simp only [reduceCtorEq] at e) <;> cases hy <;> (try simp only [reduceCtorEq] at e)
      split at e
      · cases e; rename_i hkk; subst hkk; exact run_equalIn_int w d t _ k _ _ sp
      · cases e
    | string =>
      rw [hk] at e sp; simp only at e sp
      cases hx <;> (try simp only [reduceCtorEq] at e) <;> cases hy <;> (try simp only [reduceCtorEq, Option.some.injEq] at e)
      subst e; rw [run_equalIn_string w d t _ _ sp, beq_toListBytes]
    | pointer =>
      rw [hk] at e sp; simp only at e sp
      obtain ⟨q, sp⟩ := sp
      cases hx <;> (try simp only [reduceCtorEq] at e) <;> cases hy <;> (try simp only [reduceCtorEq, Option.some.injEq] at e) <;> subst e <;> (simp only [Op.equalIn, Sem.run_bind, run_underlying sp, Result.andThen_ok]; rfl)
    | slice =>
      rw [hk] at e sp; simp only at e sp
      obtain ⟨q, sp⟩ := sp
      cases hx <;> (try simp only [reduceCtorEq] at e) <;> cases hy <;> (try simp only [reduceCtorEq, Option.some.injEq] at e) <;> subst e <;> (simp only [Op.equalIn, Sem.run_bind, run_underlying sp, Result.andThen_ok]; rfl)
    | map =>
      rw [hk] at e sp; simp only at e sp
      obtain ⟨q, q', sp⟩ := sp
      cases hx <;> (try simp only [reduceCtorEq] at e) <;> cases hy <;> (try simp only [reduceCtorEq, Option.some.injEq] at e) <;> subst e <;> (simp only [Op.equalIn, Sem.run_bind, run_underlying sp, Result.andThen_ok]; rfl)
    | func =>
      rw [hk] at e sp; simp only at e sp
      obtain ⟨q, q', q'', sp⟩ := sp
      cases hx <;> (try simp only [reduceCtorEq] at e) <;> cases hy <;> (try simp only [reduceCtorEq, Option.some.injEq] at e) <;> subst e <;> (simp only [Op.equalIn, Sem.run_bind, run_underlying sp, Result.andThen_ok]; rfl)
    | iface =>
      rw [hk] at e sp; simp only at e sp
      obtain ⟨q, sp⟩ := sp
      cases hx <;> (try simp only [reduceCtorEq] at e) <;> cases hy <;> (try simp only [reduceCtorEq, Option.some.injEq] at e) <;> subst e <;> (simp only [Op.equalIn, Sem.run_bind, run_underlying sp, Result.andThen_ok]; rfl)
    | struct l =>
      rw [hk] at e sp; simp only at e sp
      obtain ⟨fs, sp, hp, rfl⟩ := sp
      have hfo : P.fieldsOf t = fs := by simp [Program.fieldsOf, sp]
      cases hx with
      | agg hxs =>
        cases hy with
        | agg hys =>
          rw [run_equalIn_struct w d t _ _ (by rw [hfo]; exact sp) hp, hfo]
          exact hfs _ _ _ _ _ _ hxs hys e
        | _ => simp only [reduceCtorEq] at e
      | _ => simp only [reduceCtorEq] at e
    | array n el z =>
      rw [hk] at e sp; simp only at e sp
      obtain ⟨sp, hz⟩ := sp
      cases hx with
      | agg hxs =>
        cases hy with
        | agg hys =>
          rw [run_equalIn_array d t n el z _ _ sp hz w]
          exact harr n 0 el z _ _ _ _ _ hxs hys e
        | _ => simp only [reduceCtorEq] at e
      | _ => simp only [reduceCtorEq] at e
    | no => rw [hk] at e; cases e

end Go.Proofs.Yteneafgmcmgahaa.V
