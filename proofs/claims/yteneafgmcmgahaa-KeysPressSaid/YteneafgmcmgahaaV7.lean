/- Own library, part 7: copy, len, min, max, literals, make, function values; and the one table of operations. -/
import Derived.Test.YteneafgmcmgahaaV6
namespace Go.Proofs.Yteneafgmcmgahaa.V
open Go
set_option linter.unusedSimpArgs false
set_option linter.unusedVariables false

variable {P : Program} {ρ : Ren} {σ : AH} {w : World}

def aCopy (P : Program) (t : Nat) (d x : AV) (σ : AH) : Option (AV × AH) :=
  match sliT P t with
  | none => none
  | some e => match szT P e with
    | none => none
    | some z => match aSrc z x σ with
      | none => none
      | some (n2, new) => match d with
        | .nilslice => some (.int .i64 0, σ)
        | .slice b o n _ =>
          if n = 0 ∨ n2 = 0 then some (.int .i64 0, σ) else
          match (σ.get b).wr, (σ.get b).cs? with
          | true, some cs => if o + (new.take (min n2 n * z)).length ≤ cs.length ∧ new.all AV.one = true then
              some (.int .i64 (min n2 n : Nat), σ.set b ((σ.get b).upd (splice cs o (new.take (min n2 n * z))))) else none
          | _, _ => none
        | _ => none

/-- The first k elements of what is copied. -/
theorem src_take {z n : Nat} {x : AV} {x' : Value} {cs : List AV} (h : HR ρ σ w) (hx : VR ρ x x') (e : aSrc z x σ = some (n, cs)) (k : Nat) (hk : k ≤ n) :
    ∃ l, VRs ρ (cs.take (k * z)) l ∧ l.length = k * z ∧ (Builtin.firstCells z k x').run P w = .ok ⟨l⟩ w := by
  unfold aSrc at e
  split at e
  · cases e; cases hx
    have : k = 0 := by omega
    subst this
    exact ⟨[], by simpa using VRs.nil, by simp, rfl⟩
  · rename_i s
    split at e
    · rename_i hz
      cases e; cases hx
      subst hz
      refine ⟨(s.data.toList.map fun b => Value.int .u8 b.toNat).take k, ?_, by simp; omega, ?_⟩
      · have : ∀ l : List UInt8, VRs ρ (l.map fun b => AV.int .u8 b.toNat) (l.map fun b => Value.int .u8 b.toNat) := by
          intro l
          induction l with
          | nil => exact .nil
          | cons a l ih => exact .cons (.int _ _) ih
        simpa using (this s.data.toList).take k
      · simp only [Builtin.firstCells, Sem.run_pure]
        congr 1
        apply Array.ext'
        simp [ByteArray.data_extract]
    · cases e
  · rename_i b o m c
    split at e
    · rename_i hm
      subst hm
      cases e
      have : k = 0 := by omega
      subst this
      have z0 : ∀ (a : Addr) (q : Nat), (Builtin.firstCells z 0 (.slice (some a) 0 q)).run P w = .ok ⟨[]⟩ w := by
        intro a q; simp [Builtin.firstCells, Go.loadCells, loadCellsFrom]
      cases hx with
      | slice hr => exact ⟨[], by simpa using VRs.nil, by simp, z0 _ _⟩
      | slicee => exact ⟨[], by simpa using VRs.nil, by simp, z0 _ _⟩
      | sliceo _ _ _ hn _ => omega
    · rename_i hm
      split at e
      · rename_i cs0 hc
        split at e
        · rename_i hle
          cases e
          have hkz : k * z ≤ n * z := Nat.mul_le_mul_right _ hk
          have go : ∀ (r : R) (q : Nat), ρ b = some r → ∃ l, VRs ρ (((cs0.drop o).take (n * z)).take (k * z)) l ∧ l.length = k * z ∧ (Builtin.firstCells z k (.slice (some ⟨r.blk, r.sh + o, none⟩) n q)).run P w = .ok ⟨l⟩ w := by
            intro r q hr
            obtain ⟨l, h1, h2, h3, _⟩ := h.loadCells (P := P) (o := o) (n := k * z) hr hc (by omega)
            refine ⟨l, ?_, h3, by simpa [Builtin.firstCells] using h1⟩
            rw [List.take_take, Nat.min_eq_left hkz]
            exact h2
          cases hx with
          | slice hr => exact go _ _ hr
          | slicee => exact absurd rfl hm
          | sliceo hr hs ho hn hc' =>
            rename_i r i
            have := go r (r.cap - i) hr
            rwa [hs, Nat.zero_add] at this
        · cases e
      · cases e
  · cases e

theorem ok_copy {t tx ty : Nat} {d x v : AV} {d' x' : Value} {σ' : AH} (h : HR ρ σ w) (hd : VR ρ d d') (hx : VR ρ x x') (e : aCopy P t d x σ = some (v, σ')) :
    Ok P (Builtin.copy_ #[t, tx] ty #[d', x']) ρ σ w v σ' := by
  unfold aCopy at e
  split at e
  · cases e
  · rename_i el ht
    have hu := sliT_u ht
    split at e
    · cases e
    · rename_i z hz
      split at e
      · cases e
      · rename_i n2 new hsrc
        obtain ⟨hlen, _⟩ := src_ok (P := P) h hx hsrc
        have base : ∀ (a : Option Addr) (n c k : Nat) (l : List Value), k = Nat.min n2 n → (Builtin.firstCells z k x').run P w = .ok ⟨l⟩ w →
            (Builtin.copy_ #[t, tx] ty #[.slice a n c, x']).run P w = ((match a with | some a => storeCells a l | none => pure ()).run P w).andThen fun _ w' => .ok (goInt k) w' := by
          intro a n c k l hk hf
          subst hk
          simp only [Builtin.copy_, List.getElem?_toArray, List.getElem?_cons_zero, List.getElem?_cons_succ, Sem.run_bind, run_underlying hu, Result.andThen_ok, hlen, run_szT hz, hf]
          cases a <;> simp only [Sem.run_bind, Sem.run_pure, Result.andThen_ok]
        have zero : ∀ (a : Option Addr) (n c : Nat), n = 0 ∨ n2 = 0 → (Builtin.copy_ #[t, tx] ty #[.slice a n c, x']).run P w = .ok (.int .i64 0) w := by
          intro a n c h0
          obtain ⟨l, _, hl, hf⟩ := src_take (P := P) h hx hsrc 0 (Nat.zero_le _)
          have hl0 : l = [] := List.eq_nil_of_length_eq_zero (by simpa using hl)
          subst hl0
          have hm : (0 : Nat) = Nat.min n2 n := by rcases h0 with q | q <;> subst q <;> simp
          rw [base a n c 0 [] hm hf]
          cases a <;> simp [Go.storeCells, goInt]
        split at e
        · cases e; cases hd
          exact .same h (zero _ _ _ (.inl rfl)) (.int _ _)
        · rename_i b o n c
          split at e
          · rename_i h0
            cases e
            cases hd with
            | slice hr => exact .same h (zero _ _ _ h0) (.int _ _)
            | slicee => exact .same h (zero _ _ _ h0) (.int _ _)
            | sliceo hr hs ho hn hc => exact .same h (zero _ _ _ h0) (.int _ _)
          · rename_i h0
            split at e
            · rename_i cs hw hc
              split at e
              · rename_i hq
                cases e
                obtain ⟨l, hv, hl, hf⟩ := src_take (P := P) h hx hsrc (min n2 n) (Nat.min_le_left _ _)
                have hone : (new.take (min n2 n * z)).all AV.one = true := by
                  simp only [List.all_eq_true] at hq ⊢
                  exact fun y hy => hq.2 y (List.mem_of_mem_take hy)
                have go : ∀ (r : R) (q : Nat), ρ b = some r → Ok P (Builtin.copy_ #[t, tx] ty #[.slice (some ⟨r.blk, r.sh + o, none⟩) n q, x']) ρ σ w (.int .i64 (min n2 n : Nat)) (σ.set b ((σ.get b).upd (splice cs o (new.take (min n2 n * z))))) := by
                  intro r q hr
                  obtain ⟨w', h1, h2⟩ := h.storeCells (P := P) hr hw hc hq.1 hone hv
                  refine ⟨_, w', ρ, ?_, .int _ _, h2⟩
                  rw [base (some ⟨r.blk, r.sh + o, none⟩) n q (min n2 n) l rfl hf]
                  simp only [h1, Result.andThen_ok, goInt]
                cases hd with
                | slice hr => exact go _ _ hr
                | slicee => exact absurd (.inl rfl) h0
                | sliceo hr hs ho hn hc' =>
                  rename_i r i
                  have := go r (r.cap - i) hr
                  rwa [hs, Nat.zero_add] at this
              · cases e
            · cases e
        · cases e

-- ------------------------------------------------------------------ len, min, max
inductive LK where
  | str | arr (n : Nat) | slice | map | no
def lenK (P : Program) (t : Nat) : LK :=
  match P.underlying t with
  | some .string => .str
  | some (.array n _) => .arr n
  | some (.pointer a) => match P.underlying a with | some (.array n _) => .arr n | _ => .no
  | some (.slice _) => .slice
  | some (.map _ _) => .map
  | _ => .no
def aLen (P : Program) (t : Nat) (x : AV) (σ : AH) : Option AV :=
  match lenK P t with
  | .str => match x with | .str s => some (.int .i64 s.size) | _ => none
  | .arr n => some (.int .i64 n)
  | .slice => match x with | .nilslice => some (.int .i64 0) | .slice _ _ n _ => some (.int .i64 n) | _ => none
  | .map => match x with
    | .nilmap => some (.int .i64 0)
    | .map b => match σ.get b with | .mp es => some (.int .i64 es.length) | _ => none
    | _ => none
  | .no => none
theorem ok_len {t ty : Nat} {x v : AV} {x' : Value} (h : HR ρ σ w) (hx : VR ρ x x') (e : aLen P t x σ = some v) : Ok P (Builtin.len_ #[t] ty #[x']) ρ σ w v σ := by
  unfold aLen lenK at e
  cases hu : P.underlying t with
  | none => simp [hu] at e
  | some d =>
    rw [hu] at e
    have pre : ∀ {q : Sem Value}, True := fun {_} => trivial
    cases d with
    | string =>
      simp only at e
      split at e
      · cases e; cases hx; exact .same h (by simp [Builtin.len_, run_underlying hu]; rfl) (.int _ _)
      · cases e
    | array n el =>
      simp only at e
      cases e
      refine .same h ?_ (.int _ _)
      simp [Builtin.len_, run_underlying hu]; rfl
    | pointer a =>
      simp only at e
      cases ha : P.underlying a with
      | none => simp [ha] at e
      | some d2 =>
        rw [ha] at e
        cases d2 <;> simp only [reduceCtorEq] at e
        cases e
        refine .same h ?_ (.int _ _)
        simp [Builtin.len_, run_underlying hu, run_underlying ha]; rfl
    | slice el =>
      simp only at e
      split at e
      · cases e; cases hx; exact .same h (by simp [Builtin.len_, run_underlying hu]; rfl) (.int _ _)
      · cases e; cases hx <;> exact .same h (by simp [Builtin.len_, run_underlying hu]; rfl) (.int _ _)
      · cases e
    | map k el =>
      simp only at e
      split at e
      · cases e; cases hx; exact .same h (by simp [Builtin.len_, run_underlying hu]; rfl) (.int _ _)
      · split at e
        · rename_i b es hg
          cases e
          cases hx with
          | map hr =>
            rename_i r
            have ho := h.obj _ r hr
            rw [hg] at ho
            obtain ⟨ents, clock, hh, hk, _⟩ := ho
            have := hk.length
            simp only [List.length_map, Array.length_toList] at this
            refine .same h ?_ (.int _ _)
            have hgo : (getObj r.blk).run P w = .ok (.map ents clock) w := by simp [getObj, Sem.run, hh]
            simp only [Builtin.len_, List.getElem?_toArray, List.getElem?_cons_zero, Sem.run_bind, run_underlying hu, Result.andThen_ok, hgo, Sem.run_pure, goInt, this]
        · cases e
      · cases e
    | _ => simp only [reduceCtorEq] at e

def aMinMax (mx : Bool) : List AV → Option AV
  | [.int k a, .int k' b] => if k = k' then some (.int k (if mx then (if b > a then b else a) else (if b < a then b else a))) else none
  | _ => none
theorem ok_max {ts : Array Nat} {ty : Nat} {xs : List AV} {v : AV} {xs' : List Value} (h : HR ρ σ w) (hx : VRs ρ xs xs') (e : aMinMax true xs = some v) : Ok P (Builtin.max_ ts ty ⟨xs'⟩) ρ σ w v σ := by
  unfold aMinMax at e
  split at e
  · rename_i k a k' b
    split at e
    · rename_i hk
      subst hk
      cases e
      cases hx with
      | cons h1 t => cases t with
        | cons h2 t2 => cases t2; cases h1; cases h2; exact .same h (run_max_int2 _ _ _ _ _ _ _) (.int _ _)
    · cases e
  · cases e
theorem ok_min {ts : Array Nat} {ty : Nat} {xs : List AV} {v : AV} {xs' : List Value} (h : HR ρ σ w) (hx : VRs ρ xs xs') (e : aMinMax false xs = some v) : Ok P (Builtin.min_ ts ty ⟨xs'⟩) ρ σ w v σ := by
  unfold aMinMax at e
  split at e
  · rename_i k a k' b
    split at e
    · rename_i hk
      subst hk
      cases e
      cases hx with
      | cons h1 t => cases t with
        | cons h2 t2 => cases t2; cases h1; cases h2; exact .same h (run_min_int2 _ _ _ _ _ _ _) (.int _ _)
    · cases e
  · cases e

-- ------------------------------------------------------------------ literals
/-- Parts of a literal. -/
inductive PS (ρ : Ren) : List (Nat × AV) → List (Nat × Value) → Prop
  | nil : PS ρ [] []
  | cons {i v v' l l'} (h : VR ρ v v') (t : PS ρ l l') : PS ρ ((i, v) :: l) ((i, v') :: l')
/-- Parts are laid over zero cells. -/
def aFill (place : Nat → Option (Nat × Nat)) (cs : List AV) : List (Nat × AV) → Option (List AV)
  | [] => some cs
  | (i, v) :: rest => match place i with
    | none => none
    | some (o, z) => if v.cells.length = z ∧ o + z ≤ cs.length then aFill place (splice cs o v.cells) rest else none

theorem foldl_put (o : Nat) : ∀ (vs : List Value) (j : Nat) (cs : Array Value), o + j + vs.length ≤ cs.size →
    (vs.zipIdx j).foldl (fun (cs : Array Value) (x : Value × Nat) => cs.setIfInBounds (o + x.2) x.1) cs = ⟨cs.toList.take (o + j) ++ vs ++ cs.toList.drop (o + j + vs.length)⟩ := by
  intro vs
  induction vs with
  | nil => intro j cs _; simp
  | cons v vs ih =>
    intro j cs hle
    simp only [List.zipIdx_cons, List.foldl_cons]
    rw [ih (j + 1) (cs.setIfInBounds (o + j) v) (by simp at hle ⊢; omega)]
    congr 1
    have := list_seg_step cs.toList (o + j) v vs (by simp at hle ⊢; omega)
    simpa [Array.toList_setIfInBounds, Nat.add_assoc] using this

theorem run_fill {place : Nat → Option (Nat × Nat)} : ∀ {ps : List (Nat × AV)} {ps' : List (Nat × Value)} {cs : List AV} {cs' : List Value} {r : List AV},
    PS ρ ps ps' → VRs ρ cs cs' → aFill place cs ps = some r → ∃ l, Instr.fill place ⟨cs'⟩ ps' = some ⟨l⟩ ∧ VRs ρ r l := by
  intro ps
  induction ps with
  | nil =>
    intro ps' cs cs' r hp hc e
    cases hp
    cases e
    exact ⟨cs', rfl, hc⟩
  | cons p ps ih =>
    intro ps' cs cs' r hp hc e
    cases hp with
    | cons hv ht =>
      rename_i i v v' qs
      simp only [aFill] at e
      split at e
      · cases e
      · rename_i o z hpl
        split at e
        · rename_i hq
          have hl := hv.cells.length
          simp only [Array.length_toList] at hl
          have hcl := hc.length
          have hsp : VRs ρ (splice cs o v.cells) (cs'.take o ++ v'.cells.toList ++ cs'.drop (o + v'.cells.toList.length)) := by
            unfold splice
            refine ((hc.take o).append hv.cells).append ?_
            rw [hv.cells.length]
            exact hc.drop _
          obtain ⟨l, h1, h2⟩ := ih ht hsp e
          refine ⟨l, ?_, h2⟩
          simp only [Instr.fill, hpl]
          have hn : (decide (v'.cells.size ≠ z) || decide (o + v'.cells.size > (⟨cs'⟩ : Array Value).size)) = false := by
            simp; omega
          rw [if_neg (by simpa using hn)]
          have := foldl_put o v'.cells.toList 0 ⟨cs'⟩ (by simp; omega)
          simp only [Nat.add_zero] at this
          rw [← Array.foldl_toList, Array.toList_zipIdx]
          rw [this]
          exact h1
        · cases e

/-- Where the parts of a literal lie. -/
def placesT (P : Program) (t : Nat) : Option (List (Nat × Nat)) :=
  match P.underlying t with
  | some (.struct fs) => fs.toList.foldr (fun f acc => match szT P f.type, acc with | some z, some l => some ((f.offset, z) :: l) | _, _ => none) (some [])
  | _ => none
def aBuild (P : Program) (t : Nat) (ps : List (Nat × AV)) : Option AV :=
  match zeroT P t with
  | none => none
  | some zc => match arrT P t with
    | some (_, e) => match szT P e with
      | some z => (aFill (fun i => some (i * z, z)) zc ps).map .agg
      | none => none
    | none => match placesT P t with
      | some pl => (aFill (fun i => pl[i]?) zc ps).map .agg
      | none => none

theorem run_places {fs : List Field} {pl : List (Nat × Nat)} (e : fs.foldr (fun f acc => match szT P f.type, acc with | some z, some l => some ((f.offset, z) :: l) | _, _ => none) (some []) = some pl) (w : World) :
    ((fs.mapM fun f => do pure (f.offset, ← sizeOf f.type)) : Sem (List (Nat × Nat))).run P w = .ok pl w := by
  induction fs generalizing pl with
  | nil => simp at e; subst e; simp
  | cons f fs ih =>
    simp only [List.foldr_cons] at e
    split at e
    · rename_i z l hz hl
      cases e
      have := ih hl
      simp only [List.mapM_cons, Sem.run_bind, run_szT hz, Result.andThen_ok, Sem.run_pure, this]
    · cases e

theorem ok_build {t : Nat} {ps : List (Nat × AV)} {ps' : List (Nat × Value)} {v : AV} (h : HR ρ σ w) (hp : PS ρ ps ps')
    (e : aBuild P t ps = some v) : Ok P (Instr.build t ⟨ps'⟩) ρ σ w v σ := by
  unfold aBuild at e
  split at e
  · cases e
  · rename_i zc hz
    obtain ⟨zv, hzr, hzv⟩ := run_zeroT hz w
    split at e
    · rename_i n el ha
      have hu := arrT_u ha
      split at e
      · rename_i z hsz
        cases hf : aFill (fun i => some (i * z, z)) zc ps with
        | none => simp [hf] at e
        | some r =>
          simp [hf] at e
          subst e
          obtain ⟨l, h1, h2⟩ := run_fill hp (hzv ρ) hf
          refine .same h ?_ (.agg h2)
          simp only [Instr.build, Sem.run_bind, hzr, run_underlying hu, Result.andThen_ok, run_szT hsz]
          simp only [Array.toArray_toList] at h1
          rw [h1]
          simp
      · cases e
    · split at e
      · rename_i pl hpl
        unfold placesT at hpl
        split at hpl
        · rename_i fs hu
          cases hf : aFill (fun i => pl[i]?) zc ps with
          | none => simp [hf] at e
          | some r =>
            simp [hf] at e
            subst e
            obtain ⟨l, h1, h2⟩ := run_fill hp (hzv ρ) hf
            refine .same h ?_ (.agg h2)
            have hm := run_places hpl w
            simp only [Instr.build, Sem.run_bind, hzr, run_underlying hu, Result.andThen_ok]
            rw [Array.mapM_eq_mapM_toList]
            simp only [Sem.run_map, hm, Result.andThen_ok, List.getElem?_toArray]
            simp only [Array.toArray_toList] at h1
            rw [h1]
            simp
        · cases hpl
      · cases e

def rep (n : Nat) (zc : List AV) : List AV := (List.replicate n zc).flatten
theorem madeCells_rep (zc : Array Value) (hz : 0 < zc.size) : ∀ n, ((Array.range (n * zc.size)).map (zc[· % zc.size]!)) = ⟨(List.replicate n zc.toList).flatten⟩ := by
  intro n
  apply Array.ext'
  simp only [Array.toList_map, Array.toList_range]
  induction n with
  | zero => simp
  | succ n ih =>
    rw [Nat.succ_mul, List.range_add, List.map_append, ih, List.replicate_succ', List.flatten_append]
    congr 1
    simp only [List.map_map, List.flatten_cons, List.flatten_nil, List.append_nil]
    apply List.ext_getElem?
    intro i
    simp only [List.getElem?_map]
    by_cases hi : i < zc.size
    · rw [List.getElem?_range hi]
      simp only [Option.map_some, Function.comp]
      rw [Nat.mul_comm n, Nat.mul_add_mod, Nat.mod_eq_of_lt hi]
      simp [hi]
    · rw [List.getElem?_eq_none (by simp; omega), List.getElem?_eq_none (by simp; omega)]
      rfl
theorem rep_VRs {zc : List AV} {zc' : List Value} (h : VRs ρ zc zc') : ∀ n, VRs ρ (rep n zc) (List.replicate n zc').flatten := by
  intro n
  induction n with
  | zero => exact .nil
  | succ n ih =>
    simp only [rep, List.replicate_succ, List.flatten_cons] at ih ⊢
    exact h.append ih

def aBuildSlice (P : Program) (t len : Nat) (ps : List (Nat × AV)) (σ : AH) : Option (AV × AH) :=
  match sliT P t with
  | none => none
  | some e => match szT P e, zeroT P e with
    | some z, some zc => if 0 < z ∧ zc.length = z ∧ len * z ≤ 16777216 then match aFill (fun i => some (i * z, z)) (rep len zc) ps with
      | some cs => some (.slice σ.nx 0 len (some len), σ.push (.cells e cs))
      | none => none
      else none
    | _, _ => none

theorem ok_buildSlice {t len : Nat} {ps : List (Nat × AV)} {ps' : List (Nat × Value)} {v : AV} {σ' : AH} (h : HR ρ σ w)
    (hp : PS ρ ps ps') (e : aBuildSlice P t len ps σ = some (v, σ')) : Ok P (Instr.buildSlice t len ⟨ps'⟩) ρ σ w v σ' := by
  unfold aBuildSlice at e
  split at e
  · cases e
  · rename_i el ht
    have hu := sliT_u ht
    split at e
    · rename_i z zc hsz hz
      split at e
      · rename_i hq
        obtain ⟨hz0, hzl, hlim⟩ := hq
        split at e
        · rename_i cs hf
          cases e
          obtain ⟨zv, hzr, hzv⟩ := run_zeroT hz w
          have hzs : zv.cells.size = z := by rw [← hzl, (hzv ρ).length]; simp
          obtain ⟨l, h1, h2⟩ := run_fill hp (rep_VRs (hzv ρ) len) hf
          have hrow := madeCells_rep zv.cells (by omega) len
          obtain ⟨w', ρ', g1, g2, g3⟩ := h.newRow (P := P) (e := el) h2
          have hv := VR.slice (ρ := ρ') (o := 0) (n := len) (c := len) g2
          refine ⟨.slice (some ⟨w.heap.size, 0, none⟩) len len, w', ρ', ?_, by simpa using hv, g3⟩
          have hnl : ¬ (len * z > 2 ^ 24) := by omega
          have hfin : Instr.fill (fun i => some (i * z, z)) ((Array.range (len * z)).map ((if len * z = 0 then #[] else zv.cells)[· % (if len * z = 0 then #[] else zv.cells).size]!)) ps' = some ⟨l⟩ := by
            by_cases h0 : len * z = 0
            · have hl0 : len = 0 := by
                rcases Nat.mul_eq_zero.1 h0 with q | q
                · exact q
                · omega
              subst hl0
              have e0 : ((Array.range (0 * z)).map ((if 0 * z = 0 then #[] else zv.cells)[· % (if 0 * z = 0 then #[] else zv.cells).size]!) : Array Value) = ⟨(List.replicate 0 zv.cells.toList).flatten⟩ := by
                apply Array.ext'
                simp
              rw [e0]
              exact h1
            · simp only [h0, if_false]
              rw [← hzs, hrow]
              rw [hzs]
              exact h1
          simp only [Instr.buildSlice, Sem.run_bind, run_underlying hu, Result.andThen_ok, run_szT hsz, hnl, if_false]
          by_cases h0 : len * z = 0
          · simp only [h0, if_true, Sem.run_pure, Result.andThen_ok] at hfin ⊢
            simp only [hfin, Sem.run_bind, g1, Result.andThen_ok, Sem.run_pure]
          · simp only [h0, if_false, Sem.run_bind, hzr, Sem.run_pure, Result.andThen_ok] at hfin ⊢
            simp only [hfin, Sem.run_bind, g1, Result.andThen_ok, Sem.run_pure]
        · cases e
      · cases e
    · cases e

def aMakeSlice (P : Program) (t : Nat) (l c : AV) (σ : AH) : Option (AV × AH) :=
  match l, c with
  | .int _ l, .int _ c => match sliT P t with
    | none => none
    | some e => match szT P e, byT P e, zeroT P e with
      | some z, some by_, some zc => if 0 < z ∧ zc.length = z ∧ 0 ≤ l ∧ l ≤ c ∧ (by_ : Int) * c ≤ 281474976710656 ∧ c ≤ 9223372036854775807 then
          some (.slice σ.nx 0 l.toNat (some c.toNat), σ.push (.cells e (rep c.toNat zc))) else none
      | _, _, _ => none
  | _, _ => none
theorem ok_makeSlice {t : Nat} {l c v : AV} {l' c' : Value} {σ' : AH} (h : HR ρ σ w) (hl : VR ρ l l') (hc : VR ρ c c') (e : aMakeSlice P t l c σ = some (v, σ')) : Ok P (Instr.makeSlice t l' c') ρ σ w v σ' := by
  unfold aMakeSlice at e
  split at e
  · rename_i kl l kc c
    cases hl; cases hc
    split at e
    · cases e
    · rename_i el ht
      have hu := sliT_u ht
      split at e
      · rename_i z by_ zc hsz hby hz
        split at e
        · rename_i hq
          obtain ⟨hz0, hzl, h0, hlc, hb, h63⟩ := hq
          cases e
          unfold szT at hsz
          unfold byT at hby
          unfold zeroT at hz
          cases hi : P.info? el with
          | none => simp [hi] at hsz
          | some i =>
            simp only [hi, Option.map_some, Option.some.injEq] at hsz hby
            cases hz1 : i.zero with
            | none => simp [hi, hz1] at hz
            | some zv =>
              simp only [hi, Option.bind_some, hz1] at hz
              have hzv := ofFlats_VRs hz
              have hzs : zv.cells.size = z := by rw [← hzl, (hzv ρ).length]; simp
              subst hsz hby
              have hr := run_make (P := P) w t el i zv hu hi hz1 kl kc l c h0 hlc hb h63
              have hm : madeCells zv.cells (c.toNat * i.size) = ⟨(List.replicate c.toNat zv.cells.toList).flatten⟩ := by
                unfold madeCells
                rw [← hzs]
                exact madeCells_rep zv.cells (by omega) c.toNat
              rw [hm] at hr
              obtain ⟨w', ρ', g1, g2, g3⟩ := h.newRow (P := P) (e := el) (rep_VRs (hzv ρ) c.toNat)
              have hw' : w' = w.alloc (.cells ⟨(List.replicate c.toNat zv.cells.toList).flatten⟩ el) := by
                simp [newRow] at g1
                exact g1.symm
              subst hw'
              have hv := VR.slice (ρ := ρ') (o := 0) (n := l.toNat) (c := c.toNat) g2
              exact ⟨_, _, ρ', hr, by simpa using hv, g3⟩
        · cases e
      · cases e
  · cases e

end Go.Proofs.Yteneafgmcmgahaa.V
