/- contend: rows of requests (part 10): rows, plainly: their bounds, that they rise, that frames are alike. contend: rows of requests (part 11): requests and bools, as arguments. contend: rows of requests (part 12): the states of the law's own loops. -/
import Derived.Test.YtnfelncgeihihaaRwJ
namespace Go.Proofs.Ytnfelncgeihihaa.V
open Go Go.Proofs
set_option maxRecDepth 100000
set_option maxHeartbeats 1000000
set_option linter.unusedSimpArgs false
set_option linter.unusedVariables false
theorem mostN_bd (L C T R F W U k : Int) : 0 ≤ mostN L C T R F W U k ∧ mostN L C T R F W U k ≤ 24 := by
  unfold mostN
  split
  · split <;> omega
  · omega
/-- All requests may be. -/
def rqsOk (rq : List Rq) : Prop := ∀ q ∈ rq, stepE q.k q.a q.v q.n = 0
theorem rqs_get {rq : List Rq} (h : rqsOk rq) {i : Nat} (hi : i < rq.length) : stepE (rq.getD i default).k (rq.getD i default).a (rq.getD i default).v (rq.getD i default).n = 0 := by
  have : rq.getD i default = rq[i] := by simp [List.getD, hi]
  rw [this]
  exact h _ (List.getElem_mem hi)
theorem reqErr_of {L C T R F W U k a v n t : Int} (h1 : okF L C T R F W U = true) (h2 : stepE k a v n = 0) (h3 : 0 ≤ t) (h4 : t ≤ 1099511626776) : reqErr L C T R F W U k a v n t = 0 := by
  unfold reqErr
  rw [if_pos ⟨h1, h2, by omega, by omega⟩]
theorem rowE_bd {L C T R F W U t : Int} {rq : List Rq} {sl : Nat → Bool} (hk : okF L C T R F W U = true) (hq : rqsOk rq) (h0 : 0 ≤ t) (h1 : t + 31 * rq.length ≤ 1099511626776) :
    ∀ {i : Nat}, i ≤ rq.length → t ≤ rowE L C T R F W U rq sl t i ∧ rowE L C T R F W U rq sl t i ≤ t + 31 * i
  | 0, _ => by simp [rowE]
  | i + 1, hi => by
    obtain ⟨a, b⟩ := rowE_bd (sl := sl) hk hq h0 h1 (i := i) (by omega)
    have hs := rqs_get hq (show i < rq.length by omega)
    have he := reqErr_of (t := rowE L C T R F W U rq sl t i) hk hs (by omega) (by omega)
    obtain ⟨c1, c2, c3, c4⟩ := req_bd (sl i) he
    have hm := mostN_bd L C T R F W U (rq.getD i default).k
    have hz := stepE_zero hs
    show t ≤ reqEnd L C T R F W U _ _ _ _ (sl i) (rowE L C T R F W U rq sl t i) ∧ reqEnd L C T R F W U _ _ _ _ (sl i) (rowE L C T R F W U rq sl t i) ≤ t + 31 * ((i + 1 : Nat) : Int)
    omega
theorem rowOk_of {L C T R F W U t : Int} {rq : List Rq} {sl : Nat → Bool} (hk : okF L C T R F W U = true) (hq : rqsOk rq) (h0 : 0 ≤ t) (h1 : t + 31 * rq.length ≤ 1099511626776) {i : Nat} (hi : i < rq.length) : rowOk L C T R F W U rq sl t i := by
  obtain ⟨a, b⟩ := rowE_bd (sl := sl) hk hq h0 h1 (i := i) (by omega)
  exact reqErr_of hk (rqs_get hq hi) (by omega) (by omega)
theorem rowE_mono {L C T R F W U t u : Int} {rq : List Rq} {sl : Nat → Bool} (hk : okF L C T R F W U = true) (hq : rqsOk rq) (h0 : 0 ≤ t) (h : t ≤ u) (h1 : u + 31 * rq.length ≤ 1099511626776) :
    ∀ {i : Nat}, i ≤ rq.length → rowE L C T R F W U rq sl t i ≤ rowE L C T R F W U rq sl u i
  | 0, _ => by simpa [rowE] using h
  | i + 1, hi => by
    have ih := rowE_mono (sl := sl) hk hq h0 h h1 (i := i) (by omega)
    exact reqEnd_mono (sl i) (rowOk_of hk hq h0 (by omega) (by omega)) (rowOk_of hk hq (by omega) h1 (by omega)) ih
theorem rowE_per {L C T R F W U t : Int} {rq : List Rq} {sl : Nat → Bool} (hk : okF L C T R F W U = true) (hq : rqsOk rq) (h0 : 0 ≤ t) (h1 : t + L * C + 31 * rq.length ≤ 1099511626776) :
    ∀ {i : Nat}, i ≤ rq.length → rowE L C T R F W U rq sl (t + L * C) i = rowE L C T R F W U rq sl t i + L * C
  | 0, _ => by simp [rowE]
  | i + 1, hi => by
    have hz := okF_sz hk
    have ih := rowE_per (sl := sl) hk hq h0 h1 (i := i) (by omega)
    have a := rowOk_of (sl := sl) hk hq h0 (show t + 31 * rq.length ≤ 1099511626776 by omega) (show i < rq.length by omega)
    have b := rowOk_of (sl := sl) hk hq (show 0 ≤ t + L * C by omega) h1 (show i < rq.length by omega)
    unfold rowOk at a b
    rw [ih] at b
    show reqEnd L C T R F W U _ _ _ _ (sl i) (rowE L C T R F W U rq sl (t + L * C) i) = _
    rw [ih]
    exact reqEnd_per (sl i) a b
end Go.Proofs.Ytnfelncgeihihaa.V
namespace Go.Proofs.Ytnfelncgeihihaa.V
open Go Go.Proofs Go.Joins Go.ChangeShapes Go.WideShapes Go.RowKit Go.Deep
set_option maxRecDepth 100000
set_option linter.unusedSimpArgs false
set_option linter.unusedVariables false
theorem rqs_of : ∀ {xs : List (List AV)}, (∀ x ∈ xs, wfKs [.i .i64, .i .u16, .i .u8, .i .i64] x) → ∃ rq : List Rq, xs = rq.map Rq.cells
  | [], _ => ⟨[], rfl⟩
  | x :: xs, h => by
    obtain ⟨rq, hr⟩ := rqs_of (xs := xs) (fun y hy => h y (by simp [hy]))
    have hx := h x (by simp)
    rcases x with _ | ⟨a, _ | ⟨b, _ | ⟨c, _ | ⟨d, _ | ⟨e, r⟩⟩⟩⟩⟩
    · exact hx.elim
    · exact hx.2.elim
    · exact hx.2.2.elim
    · exact hx.2.2.2.elim
    · obtain ⟨⟨k, rfl, _⟩, ⟨u, rfl, _⟩, ⟨v, rfl, _⟩, ⟨n, rfl, _⟩, _⟩ := hx
      exact ⟨⟨k, u, v, n⟩ :: rq, by rw [List.map_cons, ← hr]; rfl⟩
    · exact hx.2.2.2.2.elim
theorem bls_of : ∀ {xs : List (List AV)}, (∀ x ∈ xs, wfKs [.b] x) → ∃ bl : List Bool, xs = bl.map (fun b => [AV.bool b])
  | [], _ => ⟨[], rfl⟩
  | x :: xs, h => by
    obtain ⟨bl, hr⟩ := bls_of (xs := xs) (fun y hy => h y (by simp [hy]))
    have hx := h x (by simp)
    rcases x with _ | ⟨a, _ | ⟨b, r⟩⟩
    · exact hx.elim
    · obtain ⟨⟨m, rfl⟩, _⟩ := hx
      exact ⟨m :: bl, by rw [List.map_cons, ← hr]⟩
    · exact hx.2.elim
theorem bls_flat : ∀ {bl : List Bool}, (bl.map (fun b => [AV.bool b])).flatten = bF bl
  | [] => rfl
  | b :: r => by
    have := bls_flat (bl := r)
    unfold bF at this ⊢
    simp [this]
theorem qF_flat {rq : List Rq} : (rq.map Rq.cells).flatten = qF rq := rfl
section
variable {H : Type} {enc : TypeId × Value → H} {P : Program} {w : World} {base : Nat} {spare : Nat → Bool} {held : Bool}
theorem open_reqs {r : Go.Reach} {b0 : Nat} {t e : TypeId} {fs : Array Field} {v : Value} {d : DataW H} {p : List MemPlace} (ht : P.underlying t = some (.slice e)) (hs : P.underlying e = some (.struct fs)) (hone : oneCellFields P fs = true) (hC : P.cellsOf e = 4) (hC' : P.cellsOf e = fs.size)
    (hk : kindsOf P fs.toList = some [.i .i64, .i .u16, .i .u8, .i .i64]) (hv : Value.okWide P w r b0 t v) (h : DataW.Trod enc P w base spare held t v d p) :
    v = .slice none 0 0 ∨ (∃ a cap, v = .slice (some a) 0 cap) ∨ ∃ (blk off cap : Nat) (rq : List Rq), 0 < rq.length ∧ v = .slice (some ⟨blk, off, none⟩) rq.length cap ∧ Holds w ⟨blk, off, 4, cap⟩ (qF rq) := by
  rcases open_slm (ks := [.i .i64, .i .u16, .i .u8, .i .i64]) ht hC (fun fuel cs x hf => open_cells hs hone hC' hk hf) (by simp) hv h with h | h | ⟨blk, off, cap, xs, h0, hle, rfl, hh, hw⟩
  · exact .inl h
  · exact .inr (.inl h)
  · obtain ⟨rq, rfl⟩ := rqs_of hw
    exact .inr (.inr ⟨blk, off, cap, rq, by simpa using h0, by rw [List.length_map], hh⟩)
theorem open_bools {r : Go.Reach} {b0 : Nat} {t e : TypeId} {v : Value} {d : DataW H} {p : List MemPlace} (ht : P.underlying t = some (.slice e)) (hs : P.underlying e = some .bool) (hC : P.cellsOf e = 1)
    (hv : Value.okWide P w r b0 t v) (h : DataW.Trod enc P w base spare held t v d p) :
    v = .slice none 0 0 ∨ (∃ a cap, v = .slice (some a) 0 cap) ∨ ∃ (blk off cap : Nat) (bl : List Bool), 0 < bl.length ∧ v = .slice (some ⟨blk, off, none⟩) bl.length cap ∧ Holds w ⟨blk, off, 1, cap⟩ (bF bl) := by
  rcases open_slm (ks := [.b]) ht hC (fun fuel cs x hf => open_cell_b hs hf) (by simp) hv h with h | h | ⟨blk, off, cap, xs, h0, hle, rfl, hh, hw⟩
  · exact .inl h
  · exact .inr (.inl h)
  · obtain ⟨bl, rfl⟩ := bls_of hw
    rw [bls_flat] at hh
    exact .inr (.inr ⟨blk, off, cap, bl, by simpa using h0, by rw [List.length_map], hh⟩)
end
end Go.Proofs.Ytnfelncgeihihaa.V
namespace Go.Proofs.Ytnfelncgeihihaa.V
open Go Go.Proofs
set_option maxRecDepth 100000
set_option linter.unusedSimpArgs false
set_option linter.unusedVariables false
/-- The first loop: requests are checked. -/
def chT (sv : AV) (L C T R F W U t u i : Int) (n c : Nat) (qs bs : List AV) : AF × AH :=
  (⟨208, [(1, .slice 0 0 n (some c)), (2, sv), (3, .int .i64 t), (4, .int .i64 u), (5, .ptr 2 0), (11, .int .i64 i)]⟩, ⟨3, rwH L C T R F W U qs bs⟩)
/-- The second loop: each request begins where the one ahead ended. -/
def cmT (sv : AV) (L C T R F W U e now i : Int) (n c : Nat) (qs bs : List AV) (acc : List Int) : AF × AH :=
  (⟨208, [(1, .slice 0 0 n (some c)), (2, sv), (5, .ptr 2 0), (12, .slice 3 0 n none), (13, .int .i64 e), (22, .int .i64 now), (23, .int .i64 i)]⟩,
   ⟨4, (3, .opn 2 1 (encI .i64 acc)) :: rwH L C T R F W U qs bs⟩)
end Go.Proofs.Ytnfelncgeihihaa.V
