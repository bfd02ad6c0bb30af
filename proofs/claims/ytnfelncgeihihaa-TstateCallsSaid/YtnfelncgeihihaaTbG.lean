/- tstate: times, spots, bytes (part 6): a screen's bytes; the loop that reads them. tstate: times, spots, bytes (part 7): a screen's bytes. tstate: times, spots, bytes (part 8): reading a screen as a way; a spot's time. -/
import Derived.Test.YtnfelncgeihihaaTbW
import Derived.Test.YtnfelncgeihihaaTbX
namespace Go.Proofs.Ytnfelncgeihihaa.V
open Go Go.Proofs
set_option maxRecDepth 100000
set_option maxHeartbeats 4000000
set_option linter.unusedSimpArgs false
set_option linter.unusedVariables false
/-- Numbers' bytes, one behind the other. -/
def bts (x : Nat → Int) : Nat → List Int
  | 0 => []
  | k + 1 => bts x k ++ numB (x k)
theorem oA_bts (x : Nat → Int) : ∀ i, oA x i = (bts x i).length
  | 0 => rfl
  | i + 1 => by simp [oA, bts, oA_bts x i]
theorem nA_eq (x : Nat → Int) (n : Nat) : ∀ i, nA x n i = n - oA x i
  | 0 => by simp [nA, oA]
  | i + 1 => by simp only [nA, oA, nA_eq x n i]; omega
theorem bts_split (x : Nat → Int) {i : Nat} : ∀ {k : Nat}, i < k → ∃ r, bts x k = bts x i ++ (numB (x i) ++ r)
  | 0, h => by omega
  | k + 1, h => by
    by_cases e : i = k
    · subst e; exact ⟨[], by simp [bts]⟩
    · obtain ⟨r, hr⟩ := bts_split x (i := i) (k := k) (by omega)
      exact ⟨r ++ numB (x k), by simp [bts, hr]⟩
theorem bts_len (x : Nat → Int) : ∀ k, (bts x k).length ≤ 3 * k
  | 0 => by simp [bts]
  | k + 1 => by
    have := bts_len x k
    have h := numB_len (x k)
    simp only [bts, List.length_append]
    omega
theorem enc_app {k : IntKind} {a b : List Int} : encI k (a ++ b) = encI k a ++ encI k b := by simp [encI]
theorem enc_len {k : IntKind} {a : List Int} : (encI k a).length = a.length := by simp [encI]
theorem enc_mid {a b r : List Int} {j : Nat} (hj : j < b.length) : (encI .u8 (a ++ (b ++ r))).getD (a.length + j) (.tup []) = .int .u8 (b.getD j 0) := by
  rw [List.getD_eq_getElem?_getD]
  unfold encI
  rw [List.getElem?_map, List.getElem?_append_right (by omega), Nat.add_sub_cancel_left, List.getElem?_append_left hj, List.getElem?_eq_getElem hj]
  simp [List.getD, hj]
theorem rdOk_bts {x : Nat → Int} (hx : ∀ i, 0 ≤ x i ∧ x i ≤ 1000) {i : Nat} (hi : i < 7) : rdOk (encI .u8 (bts x 7)) (oA x i) (nA x (bts x 7).length i) (x i) := by
  obtain ⟨r, hr⟩ := bts_split x hi
  have hl : (bts x 7).length = (bts x i).length + ((numB (x i)).length + r.length) := by rw [hr]; simp
  have hb := bts_len x 7
  refine ⟨(hx i).1, (hx i).2, pfs_enc, ?_, ?_, ?_, ?_⟩
  · rw [nA_eq, oA_bts]; omega
  · rw [nA_eq, oA_bts, enc_len]; omega
  · rw [nA_eq]; omega
  · intro j hj
    rw [oA_bts, hr]
    exact enc_mid hj
def scX (L C T R F W U : Int) : Nat → Int
  | 0 => L
  | 1 => C
  | 2 => T
  | 3 => R
  | 4 => F
  | 5 => W
  | _ => U
theorem scX_bd {L C T R F W U : Int} (hk : okF L C T R F W U = true) : ∀ i, 0 ≤ scX L C T R F W U i ∧ scX L C T R F W U i ≤ 1000 := by
  have hq := okF_bd hk
  intro i
  match i with
  | 0 => show 0 ≤ L ∧ L ≤ 1000; omega
  | 1 => show 0 ≤ C ∧ C ≤ 1000; omega
  | 2 => show 0 ≤ T ∧ T ≤ 1000; omega
  | 3 => show 0 ≤ R ∧ R ≤ 1000; omega
  | 4 => show 0 ≤ F ∧ F ≤ 1000; omega
  | 5 => show 0 ≤ W ∧ W ≤ 1000; omega
  | i + 6 => show 0 ≤ U ∧ U ≤ 1000; omega
end Go.Proofs.Ytnfelncgeihihaa.V
namespace Go.Proofs.Ytnfelncgeihihaa.V
open Go Go.Proofs
set_option maxRecDepth 100000
set_option maxHeartbeats 4000000
set_option linter.unusedSimpArgs false
set_option linter.unusedVariables false
theorem bytes_sc {L C T R F W U : Int} (hk : okF L C T R F W U = true) :
    SC Try.prog 46 [.agg [.int .i64 L, .int .i64 C, .int .i64 T, .int .i64 R, .int .i64 F, .int .i64 W, .int .i64 U]] ⟨0, []⟩
      (fun v τ => v = .tup [.slice 7 0 (bts (scX L C T R F W U) 7).length none, .int .i64 0] ∧ τ.get 7 = .opn 5 1 (encI .u8 (bts (scX L C T R F W U) 7))) := by
  have hq := okF_bd hk
  refine sc_of_vcT XBy_ok (by kernel_rfl) (fun p _ L hL => by cases hL) (byt_vc numB L C T R F W U _) ?_
  unfold byt_VC apB
  have w : ∀ z : Int, 0 ≤ z → z ≤ 1000 → IntKind.u64.wrap z = z := fun z a b => u64w a (by omega)
  rw [w L (by omega) (by omega), w C (by omega) (by omega), w T (by omega) (by omega), w R (by omega) (by omega), w F (by omega) (by omega), w W (by omega) (by omega), w U (by omega) (by omega)]
  have l0 := numB_len L
  have l1 := numB_len C
  have l2 := numB_len T
  have l3 := numB_len R
  have l4 := numB_len F
  have l5 := numB_len W
  have l6 := numB_len U
  have p0 : ∀ a : List Int, pfs (encI .u8 a) = true := fun a => pfs_enc
  refine ⟨fun h => by simp [hk] at h, fun _ => ?_⟩
  simp only [← enc_app, p0, enc_len, List.length_append]
  have hb : bts (scX L C T R F W U) 7 = numB L ++ numB C ++ numB T ++ numB R ++ numB F ++ numB W ++ numB U := rfl
  rw [hb]
  unfold need
  clear hk p0 w
  refine ⟨⟨by omega, by omega⟩, ⟨by omega, trivial, by omega, by omega, trivial, by omega, by omega⟩, ⟨by omega, trivial, by omega, by omega, trivial, by omega, by omega⟩, ⟨by omega, trivial, by omega, by omega, trivial, by omega, by omega⟩, ⟨by omega, trivial, by omega, by omega, trivial, by omega, by omega⟩, ⟨by omega, trivial, by omega, by omega, trivial, by omega, by omega⟩, ⟨by omega, trivial, by omega, by omega, trivial, by omega, by omega⟩, ?_, rfl⟩
  simp only [List.length_append]
/-- The loop that reads a screen. -/
theorem rd_wl {x : Nat → Int} (hx : ∀ i, 0 ≤ x i ∧ x i ≤ 1000) : WL Try.prog 1 (loopAt Try.prog 47 0) (fun e fr σ => e = .exit 0 ∧ fr = (rdT x (bts x 7).length (encI .u8 (bts x 7)) 7).1 ∧ σ = (rdT x (bts x 7).length (encI .u8 (bts x 7)) 7).2)
    (rdT x (bts x 7).length (encI .u8 (bts x 7)) 0).1 (rdT x (bts x 7).length (encI .u8 (bts x 7)) 0).2 := by
  have ok : ∀ i, i < 7 → rdOk (encI .u8 (bts x 7)) (oA x i) (nA x (bts x 7).length i) (x i) := fun i hi => rdOk_bts hx hi
  generalize (bts x 7).length = n at ok ⊢
  generalize hcs : encI .u8 (bts x 7) = cs at ok ⊢
  have hpf : pfs cs = true := by rw [← hcs]; exact pfs_enc
  refine loop_famX (orc := purO []) (qt := []) (fuel := 20) (b := 0) (sy := symC Try.prog (bodyOf Try.prog 47) []) (by kernel_rfl) [2, 4, 5, 17, 18, 19] (ι := {i : Nat // i ≤ 7}) (fun i => withT 77 (cntTr cs (oA x i.1) (nA x n i.1) (oA x (i.1 + 1)) (nA x n (i.1 + 1)) (x i.1)) (purT [])) (fun i => XCt_ok cs _ _ _ _ _) (fun i => rdT x n cs i.1) (fun i => 7 - i.1) _
    (fun i => match i.1 with | 0 => rd0_scr | 1 => rd1_scr | 2 => rd2_scr | 3 => rd3_scr | 4 => rd4_scr | 5 => rd5_scr | 6 => rd6_scr | _ => rd7_scr)
    (fun i N Q => match i.1 with
      | 0 => rd0_VC x (oA x 0) (nA x n 0) (oA x 1) (nA x n 1) cs N Q ()
      | 1 => rd1_VC x (oA x 1) (nA x n 1) (oA x 2) (nA x n 2) cs N Q ()
      | 2 => rd2_VC x (oA x 2) (nA x n 2) (oA x 3) (nA x n 3) cs N Q ()
      | 3 => rd3_VC x (oA x 3) (nA x n 3) (oA x 4) (nA x n 4) cs N Q ()
      | 4 => rd4_VC x (oA x 4) (nA x n 4) (oA x 5) (nA x n 5) cs N Q ()
      | 5 => rd5_VC x (oA x 5) (nA x n 5) (oA x 6) (nA x n 6) cs N Q ()
      | 6 => rd6_VC x (oA x 6) (nA x n 6) (oA x 7) (nA x n 7) cs N Q ()
      | _ => rd7_VC x (oA x 7) (nA x n 7) (oA x 8) (nA x n 8) cs N Q ())
    ?_ ?_ ⟨0, Nat.zero_le _⟩
  · rintro ⟨i, hi⟩ N Q
    match i, hi with
    | 0, _ => exact rd0_vc x (oA x 0) (nA x n 0) (oA x 1) (nA x n 1) cs N Q ()
    | 1, _ => exact rd1_vc x (oA x 1) (nA x n 1) (oA x 2) (nA x n 2) cs N Q ()
    | 2, _ => exact rd2_vc x (oA x 2) (nA x n 2) (oA x 3) (nA x n 3) cs N Q ()
    | 3, _ => exact rd3_vc x (oA x 3) (nA x n 3) (oA x 4) (nA x n 4) cs N Q ()
    | 4, _ => exact rd4_vc x (oA x 4) (nA x n 4) (oA x 5) (nA x n 5) cs N Q ()
    | 5, _ => exact rd5_vc x (oA x 5) (nA x n 5) (oA x 6) (nA x n 6) cs N Q ()
    | 6, _ => exact rd6_vc x (oA x 6) (nA x n 6) (oA x 7) (nA x n 7) cs N Q ()
    | 7, _ => exact rd7_vc x (oA x 7) (nA x n 7) (oA x 8) (nA x n 8) cs N Q ()
    | i + 8, h => exact absurd h (by omega)
  · have fit : ∀ j, FitsS 1 [(0, 0), (1, 1), (2, 2), (3, 3), (4, 4), (5, 5)] [2, 4, 5, 17, 18, 19] 38 [some (.ptr 1 0), some (.ptr 3 0), some (.ptr 4 0), some (.slice 5 0 7 (some 7)), some (.int .i64 7), some (.int .i64 (j : Nat))] (rdT x n cs j).2 (rdT x n cs j).1 (rdT x n cs j).2 := fun j =>
      ⟨rfl, ⟨.inr ⟨hpf, rfl⟩, ⟨rfl, .inr ⟨rfl, rfl⟩⟩, ⟨rfl, rfl, .inr ⟨hpf, rfl⟩⟩, ⟨rfl, .inl rfl⟩, ⟨rfl, .inr ⟨rfl, rfl⟩⟩, ⟨rfl, .inl rfl⟩, trivial⟩, rfl, ⟨rfl, rfl, rfl, rfl, rfl, rfl, trivial⟩⟩
    rintro ⟨i, hi⟩
    match i, hi with
    | 0, _ => exact ⟨rfl, rfl, rfl, ⟨ok 0 (by omega), rfl, rfl⟩, ⟨1, by omega⟩, _, (show 7 - 1 < 7 - 0 by omega), fit 1⟩
    | 1, _ => exact ⟨rfl, rfl, rfl, ⟨ok 1 (by omega), rfl, rfl⟩, ⟨2, by omega⟩, _, (show 7 - 2 < 7 - 1 by omega), fit 2⟩
    | 2, _ => exact ⟨rfl, rfl, rfl, ⟨ok 2 (by omega), rfl, rfl⟩, ⟨3, by omega⟩, _, (show 7 - 3 < 7 - 2 by omega), fit 3⟩
    | 3, _ => exact ⟨rfl, rfl, rfl, ⟨ok 3 (by omega), rfl, rfl⟩, ⟨4, by omega⟩, _, (show 7 - 4 < 7 - 3 by omega), fit 4⟩
    | 4, _ => exact ⟨rfl, rfl, rfl, ⟨ok 4 (by omega), rfl, rfl⟩, ⟨5, by omega⟩, _, (show 7 - 5 < 7 - 4 by omega), fit 5⟩
    | 5, _ => exact ⟨rfl, rfl, rfl, ⟨ok 5 (by omega), rfl, rfl⟩, ⟨6, by omega⟩, _, (show 7 - 6 < 7 - 5 by omega), fit 6⟩
    | 6, _ => exact ⟨rfl, rfl, rfl, ⟨ok 6 (by omega), rfl, rfl⟩, ⟨7, by omega⟩, _, (show 7 - 7 < 7 - 6 by omega), fit 7⟩
    | 7, _ => exact ⟨[(0, 0), (1, 1), (2, 2), (3, 3), (4, 4), (5, 5)], _, _, fit 7, rfl, rfl, rfl⟩
    | i + 8, h => exact absurd h (by omega)
end Go.Proofs.Ytnfelncgeihihaa.V
namespace Go.Proofs.Ytnfelncgeihihaa.V
open Go Go.Proofs
set_option maxRecDepth 100000
set_option maxHeartbeats 4000000
set_option linter.unusedSimpArgs false
set_option linter.unusedVariables false
def LRd (x : Nat → Int) (n o7 : Nat) (cs : List AV) : LTr := fun n0 fr σ s K => need (n0 = 1) ∧ need (Fits 1 [(0, 0), (1, 1), (2, 2), (3, 3), (4, 4), (5, 5)] fr σ (rdS x 0 n cs 0).1 (rdS x 0 n cs 0).2) ∧ need (n = (bts x 7).length ∧ cs = encI .u8 (bts x 7) ∧ o7 = oA x 7 ∧ ∀ i, 0 ≤ x i ∧ x i ≤ 1000) ∧ K (.exit 0) (rdS x o7 0 cs 7).1 (rdS x o7 0 cs 7).2 s
theorem LRd_ok (x : Nat → Int) (n o7 : Nat) (cs : List AV) : LOk Try.prog (loopAt Try.prog 47 0) (LRd x n o7 cs) := by
  rintro n0 fr σ s Q ⟨h0, hf, ⟨h1, h2, h3, h4⟩, hq⟩
  cases (h0 : n0 = 1)
  subst h1 h2 h3
  intro E a w hE hs
  have e7 : nA x (bts x 7).length 7 = 0 := by rw [nA_eq, oA_bts]; omega
  refine (WL.less (rd_wl h4) ?_) E a w hE (Fits.refines hf E hE a w hs)
  rintro e fr σ ⟨rfl, rfl, rfl⟩
  refine ⟨_, _, fun E _ a w h => h, s, ?_⟩
  show Q (.exit 0) (rdS x (oA x 7) (nA x (bts x 7).length 7) (encI .u8 (bts x 7)) 7).1 (rdS x (oA x 7) (nA x (bts x 7).length 7) (encI .u8 (bts x 7)) 7).2 s
  rw [e7]
  exact hq
def okRe : List Nat := [76, 78, 88]
theorem okRe_ok : okFunsX Try.prog okRe = true := by kernel_rfl
noncomputable def XRe (x : Nat → Int) (n o7 : Nat) (cs : List AV) : Cx := ⟨Try.prog, inl Try.prog (purO purTb) (purTb.map (·.1)) 20 (withT 84 cloneTr (purT purTb)) okRe 6, purO purTb, purTb.map (·.1), 20, lookL [(0, LRd x n o7 cs)]⟩
theorem XRe_ok (x : Nat → Int) (n o7 : Nat) (cs : List AV) : CxOk (XRe x n o7 cs) := ⟨inl_ok (purO_ok purTb_ok) mixed (withT_ok cloneTr_ok (purT_ok purTb_ok)) okRe_ok 6, purO_ok purTb_ok, mixed⟩
/-- A spot that may be no time. -/
def tmN (L C T R F W U f l c : Int) : Prop := lenF L C T R F W U = 0 ∨ f < 0 ∨ f > 1099511627776 ∨ l < 0 ∨ l ≥ L ∨ c < 0 ∨ c ≥ C ∨ f > IntKind.i64.wrap (Int.tdiv 1099511627776 (lenF L C T R F W U)) ∨
  mayB (IntKind.i64.wrap (IntKind.i64.wrap (IntKind.i64.wrap (f * lenF L C T R F W U) + IntKind.i64.wrap (l * C)) + c)) = false
instance {L C T R F W U f l c : Int} : Decidable (tmN L C T R F W U f l c) := by unfold tmN; infer_instance
def tmE (L C T R F W U f l c : Int) : Int := if tmN L C T R F W U f l c then 2 else 0
def tmT (L C T R F W U f l c : Int) : Int := if tmN L C T R F W U f l c then 0 else IntKind.i64.wrap (IntKind.i64.wrap (IntKind.i64.wrap (f * lenF L C T R F W U) + IntKind.i64.wrap (l * C)) + c)
theorem tim_ok (L C T R F W U f l c : Int) : tim_VC L C T R F W U f l c (fun v => v = .tup [.int .i64 (tmT L C T R F W U f l c), .int .i64 (tmE L C T R F W U f l c)]) := by
  unfold tim_VC tmT tmE tmN
  by_cases h1 : lenF L C T R F W U = 0
  · simp [h1]
  by_cases h2 : f < 0
  · simp [h1, h2]
  by_cases h3 : f > 1099511627776
  · simp [h1, h2, h3]
  by_cases h4 : l < 0
  · simp [h1, h2, h3, h4]
  by_cases h5 : l ≥ L
  · simp [h1, h2, h3, h4, h5]
  by_cases h6 : c < 0
  · simp [h1, h2, h3, h4, h5, h6]
  by_cases h7 : c ≥ C
  · simp [h1, h2, h3, h4, h5, h6, h7]
  by_cases h8 : f > IntKind.i64.wrap (Int.tdiv 1099511627776 (lenF L C T R F W U))
  · simp [h1, h2, h3, h4, h5, h6, h7, h8]
  by_cases h9 : mayB (IntKind.i64.wrap (IntKind.i64.wrap (IntKind.i64.wrap (f * lenF L C T R F W U) + IntKind.i64.wrap (l * C)) + c)) = false
  · simp [h1, h2, h3, h4, h5, h6, h7, h8, h9]
  · have h10 : mayB (IntKind.i64.wrap (IntKind.i64.wrap (IntKind.i64.wrap (f * lenF L C T R F W U) + IntKind.i64.wrap (l * C)) + c)) = true := by simpa using h9
    simp [h1, h2, h3, h4, h5, h6, h7, h8, h10]
def timF : List AV → Option AV
  | [.agg [.int .i64 L, .int .i64 C, .int .i64 T, .int .i64 R, .int .i64 F, .int .i64 W, .int .i64 U], .agg [.int .i64 f, .int .i64 l, .int .i64 c]] => some (.tup [.int .i64 (tmT L C T R F W U f l c), .int .i64 (tmE L C T R F W U f l c)])
  | _ => none
theorem tim_tr : TrOk Try.prog 48 (pureT timF) := by
  refine pureT_ok ?_
  intro xs v h
  unfold timF at h
  split at h
  · cases h; exact ⟨rfl, rfl, sc_of_vc XTb_ok (by kernel_rfl) (tim_vc _ _ _ _ _ _ _ _ _ _ _) (tim_ok _ _ _ _ _ _ _ _ _ _)⟩
  · cases h
def purTb2 : Pur := (48, timF) :: purTb
theorem purTb2_ok : PurOk Try.prog purTb2 := PurOk.cons tim_tr purTb_ok
def bytesTr (L C T R F W U : Int) (n : Nat) (cs : List AV) : Tr1 := fun xs σ s K => need (xs = [.agg [.int .i64 L, .int .i64 C, .int .i64 T, .int .i64 R, .int .i64 F, .int .i64 W, .int .i64 U]]) ∧ need (okF L C T R F W U = true ∧ n = (bts (scX L C T R F W U) 7).length ∧ cs = encI .u8 (bts (scX L C T R F W U) 7)) ∧
  K (.tup [.slice σ.nx 0 n none, .int .i64 0]) (σ.push (.opn 5 1 cs)) s
theorem bytesTr_ok (L C T R F W U : Int) (n : Nat) (cs : List AV) : TrOk Try.prog 46 (bytesTr L C T R F W U n cs) := by
  intro xs σ s K h
  obtain ⟨hx, ⟨hk, hn, hc⟩, hq⟩ := h
  have hx : xs = [.agg [.int .i64 L, .int .i64 C, .int .i64 T, .int .i64 R, .int .i64 F, .int .i64 W, .int .i64 U]] := hx
  subst hx hn hc
  refine (SC.frameG (σ0 := ⟨0, []⟩) (σ := σ) (k := 7) (u := .tup [.slice σ.nx 0 (bts (scX L C T R F W U) 7).length none, .int .i64 0]) (fun _ => none) (fun _ => none) (fun i hi => absurd hi (Nat.not_lt_zero i)) (fun i => rfl) (fun x c h => by cases h) rfl pfs_enc rfl (bytes_sc hk)).mono ?_
  rintro v τ ⟨rfl, rfl⟩
  exact ⟨s, hq⟩
end Go.Proofs.Ytnfelncgeihihaa.V
