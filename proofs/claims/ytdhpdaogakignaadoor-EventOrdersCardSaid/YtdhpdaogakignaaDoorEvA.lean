/- event: the chapter's examples, by reckoning: what strings.Join, strings.Count and stringslite.IndexByte answer is known ahead; the tables are read. -/
import Derived.Test.YtdhpdaogakignaaDoorV20
import Derived.Test.YtdhpdaogakignaaDoorT
import Derived.Test.YtdhpdaogakignaaDoorEvS
import Derived.Lib.Join
import Derived.WalkKit
import Derived.Below
namespace Go.Proofs.YtdhpdaogakignaaDoor.V
open Go Go.Proofs Go.RowKit Go.Shelf
set_option maxRecDepth 100000
set_option linter.unusedSimpArgs false
set_option linter.unusedVariables false
theorem mixedev : Tryd.prog.follows .mixedOrders = true := by kernel_rfl
/-- The strings of a row. -/
def strsOf : List AV → Option (List ByteArray)
  | [] => some []
  | .str s :: r => match strsOf r with
    | some l => some (s :: l)
    | none => none
  | _ :: _ => none
def joinB (xs : List ByteArray) (sep : ByteArray) : ByteArray := ⟨(Lib.join (xs.map (·.data.toList)) sep.data.toList).toArray⟩
def joinC (n : Nat) (cs : List AV) (sep : ByteArray) (σ : AH) : Option (AV × AH) := match strsOf cs with
  | some xs => if 0 < n ∧ xs.length = n ∧ n ≤ 140737488355328 ∧ (Lib.join (xs.map (·.data.toList)) sep.data.toList).length ≤ 140737488355328 then some (.str (joinB xs sep), σ) else none
  | none => none
/-- strings.Join, of a literal row. -/
def joinO : List AV → AH → Option (AV × AH)
  | [.slice b 0 n (some c), .str sep], σ => match σ.get b with
    | .cells _ cs => if n ≤ c then joinC n cs sep σ else none
    | .ro cs => if n ≤ c then joinC n cs sep σ else none
    | _ => none
  | _, _ => none
/-- strings.Count, of one byte. -/
def cntO : List AV → AH → Option (AV × AH)
  | [.str s, .str ⟨⟨[c]⟩⟩], σ => some (.int .i64 (Lib.countByte s.data.toList c), σ)
  | _, _ => none
def ixbO : List AV → AH → Option (AV × AH)
  | [.str s, .int .u8 c], σ => some (.int .i64 (Lib.indexByte s.data.toList c.toNat.toUInt8), σ)
  | _, _ => none
/-- strconv.ParseInt, of what spells a number. -/
def piO : List AV → AH → Option (AV × AH)
  | [.str s, .int .i64 10, .int .i64 64], σ => match Lib.parseIntB 64 s.data.toList with
    | .ok v => if s.size ≤ 9223372036854775806 then some (.tup [.int .i64 v, .nilIface], σ) else none
    | _ => none
  | _, _ => none
def orcEv : Orc := fun f => if Nat.beq f 13 = true then some piO else if Nat.beq f 23 = true then some joinO else if Nat.beq f 30 = true then some cntO else if Nat.beq f 58 = true then some ixbO else none
/-- A call that hands back a plain value and leaves below what was there as it was. -/
theorem SC_of_belowG {P : Program} {f : Nat} {args : List AV} {σ : AH} {v : AV} (h : ∀ (ρ : Ren) (args' : List Value) (w : World), VRs ρ args args' → HR ρ σ w → GOK (Wr ρ σ) w → ∃ v', VR ρ v v' ∧ Calls P f ⟨args'⟩ w (fun e w' => e = .returned v' ∧ Below w.heap.size w w')) : SC P f args σ (fun u τ => u = v ∧ τ = σ) := by
  intro ρ args' w ha hr hg
  obtain ⟨v', hv, hc⟩ := h ρ args' w ha hr hg
  refine Calls.mono hc ?_
  rintro e w' ⟨rfl, hb⟩
  refine ⟨v, v', ρ, σ, rfl, ⟨rfl, rfl⟩, hv, ⟨hr.dom, fun b r hb' => Nat.lt_of_lt_of_le (hr.lt b r hb') hb.size, fun b r hb' => OR.of_heap (hb.block _ (hr.lt b r hb')) (hr.obj b r hb'), hr.inj⟩, ?_⟩
  exact ⟨fun _ _ => rfl, Nat.le_refl _, hb.os, hb.tape, hb.output, hb.size, fun c hc _ => hb.block c hc, fun c hc => .inl hc⟩
theorem strsOf_ok {ρ : Ren} : ∀ {cs : List AV} {l : List Value} {xs : List ByteArray}, VRs ρ cs l → strsOf cs = some xs → l = xs.map Value.string
  | _, _, _, .nil, h => by cases h; rfl
  | _, _, _, .cons a t, h => by
    cases a with
    | str s =>
      simp only [strsOf] at h
      split at h
      · rename_i l' e
        cases h
        rw [strsOf_ok t e]
        rfl
      · cases h
    | _ => cases h
theorem joinC_ok {b n c : Nat} {cs : List AV} {sep : ByteArray} {σ σ' : AH} {v : AV} (hnc : n ≤ c) (hb : (∃ e, σ.get b = .cells e cs) ∨ σ.get b = .ro cs) (h : joinC n cs sep σ = some (v, σ')) :
    SC Tryd.prog 23 [.slice b 0 n (some c), .str sep] σ (fun u τ => u = v ∧ τ = σ') := by
  unfold joinC at h
  split at h
  · rename_i xs hxs
    split at h
    · rename_i hq
      obtain ⟨h1, h2, h3, h4⟩ := hq
      cases h
      refine SC_of_belowG fun ρ args' w ha hr _ => ⟨_, .str _, ?_⟩
      cases ha with
      | cons x t =>
        cases t with
        | cons y t2 =>
          cases t2
          cases y
          cases x with
          | slice hρ =>
            rename_i r
            subst h2
            have hcell : ∀ (j : Nat) x, xs[j]? = some x → w.cell? ⟨r.blk, r.sh + 0 + j, none⟩ = some (.string x) := by
              intro j x hj
              rcases hb with ⟨e, hb⟩ | hb
              · obtain ⟨hsh, l, hblk, hl⟩ := by have := hr.obj _ _ hρ; rw [hb] at this; exact this
                have hlx := strsOf_ok hl hxs
                have e1 : w.cell? ⟨r.blk, 0 + 0 + j, none⟩ = l[j]? := by simp [World.cell?, hblk]
                rw [hsh, e1, hlx, List.getElem?_map, hj]
                rfl
              · obtain ⟨pre, l, more, e, fr, hblk, hpre, hl⟩ := by have := hr.obj _ _ hρ; rw [hb] at this; exact this
                have hlx := strsOf_ok hl hxs
                have hjl : j < l.length := by rw [hlx, List.length_map]; exact (List.getElem?_eq_some_iff.1 hj).1
                have e1 : w.cell? ⟨r.blk, r.sh + 0 + j, none⟩ = (pre ++ l ++ more)[r.sh + j]? := by simp [World.cell?, hblk]
                rw [e1, ← hpre, List.getElem?_append_left (by simp; omega), List.getElem?_append_right (by omega), Nat.add_sub_cancel_left, hlx, List.getElem?_map, hj]
                rfl
            exact Tryd.strings_Join r.blk (r.sh + 0) c xs sep w hcell (hr.lt _ _ hρ) h3 hnc h4
    · cases h
  · cases h
theorem joinO_ok (xs0 : List AV) (σ : AH) (v : AV) (σ' : AH) (h : joinO xs0 σ = some (v, σ')) : SC Tryd.prog 23 xs0 σ (fun u τ => u = v ∧ τ = σ') := by
  unfold joinO at h
  split at h
  · split at h
    · rename_i e cs hb
      split at h
      · rename_i hnc
        exact joinC_ok hnc (.inl ⟨e, hb⟩) h
      · cases h
    · rename_i cs hb
      split at h
      · rename_i hnc
        exact joinC_ok hnc (.inr hb) h
      · cases h
    · cases h
  · cases h
theorem cntO_ok (xs0 : List AV) (σ : AH) (v : AV) (σ' : AH) (h : cntO xs0 σ = some (v, σ')) : SC Tryd.prog 30 xs0 σ (fun u τ => u = v ∧ τ = σ') := by
  unfold cntO at h
  split at h
  · cases h
    refine SC_of_belowG fun ρ args' w ha hr hg => ⟨_, .int _ _, ?_⟩
    cases ha with
    | cons x t =>
      cases t with
      | cons y t2 =>
        cases t2
        cases x
        cases y
        refine (Tryd.strings_Count_one _ _ w).mono ?_
        rintro e w' ⟨rfl, rfl⟩
        exact ⟨rfl, Below.refl _ _⟩
  · cases h
theorem ixbO_ok (xs0 : List AV) (σ : AH) (v : AV) (σ' : AH) (h : ixbO xs0 σ = some (v, σ')) : SC Tryd.prog 58 xs0 σ (fun u τ => u = v ∧ τ = σ') := by
  unfold ixbO at h
  split at h
  · cases h
    refine SC_of_belowG fun ρ args' w ha hr hg => ⟨_, .int _ _, ?_⟩
    cases ha with
    | cons x t =>
      cases t with
      | cons y t2 =>
        cases t2
        cases x
        cases y
        refine (Tryd.stringslite_IndexByte _ _ w).mono ?_
        rintro e w' ⟨rfl, rfl⟩
        exact ⟨rfl, Below.refl _ _⟩
  · cases h
theorem piO_ok (xs0 : List AV) (σ : AH) (v : AV) (σ' : AH) (h : piO xs0 σ = some (v, σ')) : SC Tryd.prog 13 xs0 σ (fun u τ => u = v ∧ τ = σ') := by
  unfold piO at h
  split at h
  · rename_i s
    split at h
    · rename_i n hn
      split at h
      · rename_i hs
        cases h
        refine SC_of_belowG fun ρ args' w ha hr hg => ⟨.tuple #[.int .i64 n, .nilIface], .tup (.cons (.int _ _) (.cons .nilIface .nil)), ?_⟩
        cases ha with
        | cons x t =>
          cases t with
          | cons y t2 =>
            cases t2 with
            | cons z t3 =>
              cases t3
              cases x
              cases y
              cases z
              refine (Tryd.strconv_ParseInt_10_at64_ok s hs n hn w).mono ?_
              rintro e w' ⟨rfl, rfl | ⟨t, rfl⟩⟩
              · exact ⟨rfl, Below.refl _ _⟩
              · exact ⟨rfl, rfl, rfl, rfl, by rw [Lib.bytesWorld_size]; omega, fun k hk => Lib.bytesWorld_at_old w 5 t k hk⟩
      · cases h
    · cases h
  · cases h
theorem orcEv_ok : OrcOk Tryd.prog orcEv := by
  intro f o hf xs σ v σ' h
  unfold orcEv at hf
  split at hf
  · rename_i e
    cases hf
    obtain rfl := Nat.eq_of_beq_eq_true e
    exact piO_ok xs σ v σ' h
  split at hf
  · rename_i e
    cases hf
    obtain rfl := Nat.eq_of_beq_eq_true e
    exact joinO_ok xs σ v σ' h
  · split at hf
    · rename_i e
      cases hf
      obtain rfl := Nat.eq_of_beq_eq_true e
      exact cntO_ok xs σ v σ' h
    · split at hf
      · rename_i e
        cases hf
        obtain rfl := Nat.eq_of_beq_eq_true e
        exact ixbO_ok xs σ v σ' h
      · cases hf
end Go.Proofs.YtdhpdaogakignaaDoor.V
