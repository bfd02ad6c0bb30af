/- raster: what its functions answer (part 1): places on the screen. -/
import Derived.Test.YtnfelncgeihihaaTs5
namespace Go.Proofs.Ytnfelncgeihihaa.V
open Go Go.Proofs
set_option maxRecDepth 100000
set_option linter.unusedSimpArgs false
set_option linter.unusedVariables false

@[simp] theorem bits_i64 : IntKind.i64.bits = 64 := (rfl)
@[simp] theorem bits_u64 : IntKind.u64.bits = 64 := (rfl)
@[simp] theorem bits_u32 : IntKind.u32.bits = 32 := (rfl)
@[simp] theorem bits_u16 : IntKind.u16.bits = 16 := (rfl)
@[simp] theorem bits_u8 : IntKind.u8.bits = 8 := (rfl)
@[simp] theorem bits_i32 : IntKind.i32.bits = 32 := (rfl)

def onB (x y : Int) : Bool := decide (0 ≤ x) && decide (x < 32) && decide (0 ≤ y) && decide (y < 192)
theorem onB_true {x y : Int} (h : onB x y = true) : 0 ≤ x ∧ x < 32 ∧ 0 ≤ y ∧ y < 192 := by simpa [onB, and_assoc] using h

def onF : List AV → Option AV
  | [.int .i64 x, .int .i64 y] => some (.bool (onB x y))
  | _ => none
@[simp] theorem onF_ap {x y : Int} : onF [.int .i64 x, .int .i64 y] = some (.bool (onB x y)) := rfl
theorem onF_some {xs : List AV} {v : AV} (h : onF xs = some v) : ∃ x y, xs = [.int .i64 x, .int .i64 y] ∧ v = .bool (onB x y) := by
  unfold onF at h
  split at h
  · cases h; exact ⟨_, _, rfl, rfl⟩
  · cases h
theorem on_sc (x y : Int) : SC Try.prog 71 [.int .i64 x, .int .i64 y] h0 (fun u _ => u = .bool (onB x y)) := by
  refine walk good_pick Try.func71 rfl (by simp [Try.ntmps71]) (by kernel_rfl) ?_
  simp [Try.ntmps71, Try.results71, h0]
  unfold onB
  by_cases h1 : 0 ≤ x
  · by_cases h2 : x < 32
    · by_cases h3 : 0 ≤ y
      · simp [h1, h2, h3]
      · simp [h1, h2, h3]
    · simp [h1, h2]
  · simp [h1]
theorem good_on : Good Try.prog (lookO [(71, pureO onF), (25, pureO pickF), (17, pureO livesF), (24, pureO pulsesF), (23, pureO nextF), (22, pureO classicF), (21, pureO spotF), (20, pureO pulseF), (67, pureO mayF), (19, pureO lengthF), (18, pureO checkF)]) := by
  refine Good.pure good_pick _ _ ?_
  intro xs v h
  obtain ⟨x, y, rfl, rfl⟩ := onF_some h
  exact ⟨by simp, by simp, on_sc x y⟩

def pixN (x y : Int) : Int := bits .or .i64 (bits .or .i64 (bits .or .i64 (IntKind.i64.wrap (bits .and .i64 y 192 * 32)) (IntKind.i64.wrap (bits .and .i64 y 7 * 256))) (IntKind.i64.wrap (bits .and .i64 y 56 * 4))) x
def pixelA (x y : Int) : AV := if onB x y = true then .tup [.int .i64 (pixN x y), .bool true] else .tup [.int .i64 0, .bool false]
def pixelF : List AV → Option AV
  | [.int .i64 x, .int .i64 y] => some (pixelA x y)
  | _ => none
@[simp] theorem pixelF_ap {x y : Int} : pixelF [.int .i64 x, .int .i64 y] = some (pixelA x y) := rfl
theorem pixelF_some {xs : List AV} {v : AV} (h : pixelF xs = some v) : ∃ x y, xs = [.int .i64 x, .int .i64 y] ∧ v = pixelA x y := by
  unfold pixelF at h
  split at h
  · cases h; exact ⟨_, _, rfl, rfl⟩
  · cases h
theorem pixel_sc (x y : Int) : SC Try.prog 36 [.int .i64 x, .int .i64 y] h0 (fun u _ => u = pixelA x y) := by
  refine walk good_on Try.func36 rfl (by simp [Try.ntmps36]) (by kernel_rfl) ?_
  simp [Try.ntmps36, Try.results36, h0]
  unfold pixelA
  rcases Bool.eq_false_or_eq_true (onB x y) with h | h
  · simp [h, pixN]
  · simp [h]
theorem good_pixel : Good Try.prog (lookO [(36, pureO pixelF), (71, pureO onF), (25, pureO pickF), (17, pureO livesF), (24, pureO pulsesF), (23, pureO nextF), (22, pureO classicF), (21, pureO spotF), (20, pureO pulseF), (67, pureO mayF), (19, pureO lengthF), (18, pureO checkF)]) := by
  refine Good.pure good_on _ _ ?_
  intro xs v h
  obtain ⟨x, y, rfl, rfl⟩ := pixelF_some h
  exact ⟨by simp, by unfold pixelA; split <;> simp, pixel_sc x y⟩

def attrA (x y : Int) : AV := if onB x y = true then .tup [.int .i64 (6144 + y / 8 * 32 + x), .bool true] else .tup [.int .i64 0, .bool false]
def attrF : List AV → Option AV
  | [.int .i64 x, .int .i64 y] => some (attrA x y)
  | _ => none
@[simp] theorem attrF_ap {x y : Int} : attrF [.int .i64 x, .int .i64 y] = some (attrA x y) := rfl
theorem attrF_some {xs : List AV} {v : AV} (h : attrF xs = some v) : ∃ x y, xs = [.int .i64 x, .int .i64 y] ∧ v = attrA x y := by
  unfold attrF at h
  split at h
  · cases h; exact ⟨_, _, rfl, rfl⟩
  · cases h
theorem attr_sc (x y : Int) : SC Try.prog 34 [.int .i64 x, .int .i64 y] h0 (fun u _ => u = attrA x y) := by
  refine walk good_pixel Try.func34 rfl (by simp [Try.ntmps34]) (by kernel_rfl) ?_
  simp [Try.ntmps34, Try.results34, h0]
  unfold attrA
  rcases Bool.eq_false_or_eq_true (onB x y) with h | h
  · obtain ⟨h1, h2, h3, h4⟩ := onB_true h
    have e1 : IntKind.i64.wrap (y / 8 * 32) = y / 8 * 32 := wrap_in (by omega) (by omega)
    have e2 : IntKind.i64.wrap (6144 + y / 8 * 32) = 6144 + y / 8 * 32 := wrap_in (by omega) (by omega)
    have e3 : IntKind.i64.wrap (6144 + y / 8 * 32 + x) = 6144 + y / 8 * 32 + x := wrap_in (by omega) (by omega)
    simp [h, e1, e2, e3]
  · simp [h]
theorem good_attr : Good Try.prog (lookO [(34, pureO attrF), (36, pureO pixelF), (71, pureO onF), (25, pureO pickF), (17, pureO livesF), (24, pureO pulsesF), (23, pureO nextF), (22, pureO classicF), (21, pureO spotF), (20, pureO pulseF), (67, pureO mayF), (19, pureO lengthF), (18, pureO checkF)]) := by
  refine Good.pure good_pixel _ _ ?_
  intro xs v h
  obtain ⟨x, y, rfl, rfl⟩ := attrF_some h
  exact ⟨by simp, by unfold attrA; split <;> simp, attr_sc x y⟩

def whY (t : Int) : Int := bits .or .i64 (bits .or .i64 (bits .and .i64 (t / 32) 192) (bits .and .i64 (t / 4) 56)) (bits .and .i64 (t / 256) 7)
def whereA (t : Int) : AV := if t < 0 ∨ 6912 ≤ t then .tup [.int .i64 0, .int .i64 0, .bool false, .bool false] else if 6144 ≤ t then .tup [.int .i64 (bits .and .i64 (t - 6144) 31), .int .i64 ((t - 6144) / 32 * 8), .bool true, .bool true] else .tup [.int .i64 (bits .and .i64 t 31), .int .i64 (whY t), .bool false, .bool true]
def whereF : List AV → Option AV
  | [.int .i64 t] => some (whereA t)
  | _ => none
@[simp] theorem whereF_ap {t : Int} : whereF [.int .i64 t] = some (whereA t) := rfl
theorem whereF_some {xs : List AV} {v : AV} (h : whereF xs = some v) : ∃ t, xs = [.int .i64 t] ∧ v = whereA t := by
  unfold whereF at h
  split at h
  · cases h; exact ⟨_, rfl, rfl⟩
  · cases h
theorem where_sc (t : Int) : SC Try.prog 35 [.int .i64 t] h0 (fun u _ => u = whereA t) := by
  refine walk good_attr Try.func35 rfl (by simp [Try.ntmps35]) (by kernel_rfl) ?_
  simp [Try.ntmps35, Try.results35, h0]
  unfold whereA
  by_cases h1 : t < 0
  · simp [h1]
  · by_cases h2 : 6912 ≤ t
    · simp [h1, h2]
    · by_cases h3 : 6144 ≤ t
      · have e1 : IntKind.i64.wrap (t - 6144) = t - 6144 := wrap_in (by omega) (by omega)
        have e2 : IntKind.i64.wrap ((t - 6144) / 32 * 8) = (t - 6144) / 32 * 8 := wrap_in (by omega) (by omega)
        simp [h1, h2, h3, e1, e2]
      · simp [h1, h2, h3, whY]
theorem good_where : Good Try.prog (lookO [(35, pureO whereF), (34, pureO attrF), (36, pureO pixelF), (71, pureO onF), (25, pureO pickF), (17, pureO livesF), (24, pureO pulsesF), (23, pureO nextF), (22, pureO classicF), (21, pureO spotF), (20, pureO pulseF), (67, pureO mayF), (19, pureO lengthF), (18, pureO checkF)]) := by
  refine Good.pure good_attr _ _ ?_
  intro xs v h
  obtain ⟨t, rfl, rfl⟩ := whereF_some h
  exact ⟨by simp, by unfold whereA; split <;> (try split) <;> simp, where_sc t⟩

def beamL (p q : Int) : AV := if bits .and .i64 q 7 = 0 then .agg [.int .i64 1, .int .i64 (IntKind.i64.wrap (q / 8 * 2)), .int .i64 p] else if bits .and .i64 q 7 = 1 then .agg [.int .i64 2, .int .i64 (IntKind.i64.wrap (q / 8 * 2)), .int .i64 p] else if bits .and .i64 q 7 = 2 then .agg [.int .i64 1, .int .i64 (IntKind.i64.wrap (IntKind.i64.wrap (q / 8 * 2) + 1)), .int .i64 p] else if bits .and .i64 q 7 = 3 then .agg [.int .i64 2, .int .i64 (IntKind.i64.wrap (IntKind.i64.wrap (q / 8 * 2) + 1)), .int .i64 p] else .agg [.int .i64 0, .int .i64 0, .int .i64 0]
def beamA (L C T R F W U y x : Int) : AV := if 0 ≤ IntKind.i64.wrap (y - T) ∧ IntKind.i64.wrap (y - T) < R ∧ 0 ≤ IntKind.i64.wrap (x - F) ∧ IntKind.i64.wrap (x - F) < IntKind.i64.wrap (4 * W) then beamL (IntKind.i64.wrap (y - T)) (IntKind.i64.wrap (x - F)) else if bits .and .i64 x 7 = 0 then .agg [.int .i64 3, .int .i64 x, .int .i64 y] else .agg [.int .i64 0, .int .i64 0, .int .i64 0]
theorem beamL_tup (p q : Int) : ∃ a b c, beamL p q = .agg [.int .i64 a, .int .i64 b, .int .i64 c] := by
  unfold beamL
  split
  · exact ⟨_, _, _, rfl⟩
  · split
    · exact ⟨_, _, _, rfl⟩
    · split
      · exact ⟨_, _, _, rfl⟩
      · split <;> exact ⟨_, _, _, rfl⟩
theorem beamA_tup (L C T R F W U y x : Int) : ∃ a b c, beamA L C T R F W U y x = .agg [.int .i64 a, .int .i64 b, .int .i64 c] := by
  unfold beamA
  split
  · exact beamL_tup _ _
  · split <;> exact ⟨_, _, _, rfl⟩
def beamF : List AV → Option AV
  | [.agg [.int .i64 L, .int .i64 C, .int .i64 T, .int .i64 R, .int .i64 F, .int .i64 W, .int .i64 U], .int .i64 y, .int .i64 x] => some (beamA L C T R F W U y x)
  | _ => none
@[simp] theorem beamF_ap {L C T R F W U y x : Int} : beamF [.agg [.int .i64 L, .int .i64 C, .int .i64 T, .int .i64 R, .int .i64 F, .int .i64 W, .int .i64 U], .int .i64 y, .int .i64 x] = some (beamA L C T R F W U y x) := rfl
theorem beamF_some {xs : List AV} {v : AV} (h : beamF xs = some v) : ∃ L C T R F W U y x, xs = [.agg [.int .i64 L, .int .i64 C, .int .i64 T, .int .i64 R, .int .i64 F, .int .i64 W, .int .i64 U], .int .i64 y, .int .i64 x] ∧ v = beamA L C T R F W U y x := by
  unfold beamF at h
  split at h
  · cases h; exact ⟨_, _, _, _, _, _, _, _, _, rfl, rfl⟩
  · cases h
theorem beam_sc (L C T R F W U y x : Int) : SC Try.prog 69 [.agg [.int .i64 L, .int .i64 C, .int .i64 T, .int .i64 R, .int .i64 F, .int .i64 W, .int .i64 U], .int .i64 y, .int .i64 x] h0 (fun u _ => u = beamA L C T R F W U y x) := by
  refine walk good_where Try.func69 rfl (by simp [Try.ntmps69]) (by kernel_rfl) ?_
  simp [Try.ntmps69, Try.results69, h0]
  unfold beamA beamL
  generalize IntKind.i64.wrap (y - T) = p
  generalize IntKind.i64.wrap (x - F) = q
  by_cases h1 : 0 ≤ p
  · by_cases h2 : p < R
    · by_cases h3 : 0 ≤ q
      · by_cases h4 : q < IntKind.i64.wrap (4 * W)
        · simp [h1, h2, h3, h4]
          generalize bits .and .i64 q 7 = m
          by_cases k0 : m = 0
          · simp [k0]
          · by_cases k1 : m = 1
            · simp [k0, k1]
            · by_cases k2 : m = 2
              · simp [k0, k1, k2]
              · by_cases k3 : m = 3
                · simp [k0, k1, k2, k3]
                · simp [k0, k1, k2, k3]
        · by_cases h5 : bits .and .i64 x 7 = 0
          · simp [h1, h2, h3, h4, h5]
          · simp [h1, h2, h3, h4, h5]
      · by_cases h5 : bits .and .i64 x 7 = 0
        · simp [h1, h2, h3, h5]
        · simp [h1, h2, h3, h5]
    · by_cases h5 : bits .and .i64 x 7 = 0
      · simp [h1, h2, h5]
      · simp [h1, h2, h5]
  · by_cases h5 : bits .and .i64 x 7 = 0
    · simp [h1, h5]
    · simp [h1, h5]
theorem good_beam : Good Try.prog (lookO [(69, pureO beamF), (35, pureO whereF), (34, pureO attrF), (36, pureO pixelF), (71, pureO onF), (25, pureO pickF), (17, pureO livesF), (24, pureO pulsesF), (23, pureO nextF), (22, pureO classicF), (21, pureO spotF), (20, pureO pulseF), (67, pureO mayF), (19, pureO lengthF), (18, pureO checkF)]) := by
  refine Good.pure good_where _ _ ?_
  intro xs v h
  obtain ⟨L, C, T, R, F, W, U, y, x, rfl, rfl⟩ := beamF_some h
  exact ⟨by simp, by obtain ⟨a, b, c, e⟩ := beamA_tup L C T R F W U y x; rw [e]; simp, beam_sc L C T R F W U y x⟩

def atA (L C T R F W U t : Int) : AV := if lenF L C T R F W U = 0 ∨ mayB t = false then .tup [.agg [.int .i64 0, .int .i64 0, .int .i64 0], .int .i64 2] else .tup [beamA L C T R F W U ((t.tmod (lenF L C T R F W U)).tdiv C) (t.tmod C), .int .i64 0]
def atF : List AV → Option AV
  | [.agg [.int .i64 L, .int .i64 C, .int .i64 T, .int .i64 R, .int .i64 F, .int .i64 W, .int .i64 U], .int .i64 t] => some (atA L C T R F W U t)
  | _ => none
@[simp] theorem atF_ap {L C T R F W U t : Int} : atF [.agg [.int .i64 L, .int .i64 C, .int .i64 T, .int .i64 R, .int .i64 F, .int .i64 W, .int .i64 U], .int .i64 t] = some (atA L C T R F W U t) := rfl
theorem atF_some {xs : List AV} {v : AV} (h : atF xs = some v) : ∃ L C T R F W U t, xs = [.agg [.int .i64 L, .int .i64 C, .int .i64 T, .int .i64 R, .int .i64 F, .int .i64 W, .int .i64 U], .int .i64 t] ∧ v = atA L C T R F W U t := by
  unfold atF at h
  split at h
  · cases h; exact ⟨_, _, _, _, _, _, _, _, rfl, rfl⟩
  · cases h
theorem at_sc (L C T R F W U t : Int) : SC Try.prog 30 [.agg [.int .i64 L, .int .i64 C, .int .i64 T, .int .i64 R, .int .i64 F, .int .i64 W, .int .i64 U], .int .i64 t] h0 (fun u _ => u = atA L C T R F W U t) := by
  refine walk good_beam Try.func30 rfl (by simp [Try.ntmps30]) (by kernel_rfl) ?_
  simp [Try.ntmps30, Try.results30, h0]
  unfold atA
  by_cases h : lenF L C T R F W U = 0 ∨ mayB t = false
  · simp [spotA, h]
  · simp [spotA, h]
    obtain ⟨a, b, c, e⟩ := beamA_tup L C T R F W U ((t.tmod (lenF L C T R F W U)).tdiv C) (t.tmod C)
    simp [e]
theorem good_at : Good Try.prog (lookO [(30, pureO atF), (69, pureO beamF), (35, pureO whereF), (34, pureO attrF), (36, pureO pixelF), (71, pureO onF), (25, pureO pickF), (17, pureO livesF), (24, pureO pulsesF), (23, pureO nextF), (22, pureO classicF), (21, pureO spotF), (20, pureO pulseF), (67, pureO mayF), (19, pureO lengthF), (18, pureO checkF)]) := by
  refine Good.pure good_beam _ _ ?_
  intro xs v h
  obtain ⟨L, C, T, R, F, W, U, t, rfl, rfl⟩ := atF_some h
  exact ⟨by simp, by unfold atA; split <;> (try (obtain ⟨a, b, c, e⟩ := beamA_tup L C T R F W U ((t.tmod (lenF L C T R F W U)).tdiv C) (t.tmod C); rw [e])) <;> simp, at_sc L C T R F W U t⟩


def classicRF : List AV → Option AV
  | [] => some (.agg [.int .i64 311, .int .i64 228, .int .i64 63, .int .i64 192, .int .i64 14, .int .i64 32, .int .i64 36])
  | _ => none
@[simp] theorem classicRF_ap  : classicRF [] = some (.agg [.int .i64 311, .int .i64 228, .int .i64 63, .int .i64 192, .int .i64 14, .int .i64 32, .int .i64 36]) := rfl
theorem classicRF_some {xs : List AV} {v : AV} (h : classicRF xs = some v) : xs = [] ∧ v = .agg [.int .i64 311, .int .i64 228, .int .i64 63, .int .i64 192, .int .i64 14, .int .i64 32, .int .i64 36] := by
  unfold classicRF at h
  split at h
  · cases h; exact ⟨rfl, rfl⟩
  · cases h
theorem classicR_sc  : SC Try.prog 43 [] h0 (fun u _ => u = .agg [.int .i64 311, .int .i64 228, .int .i64 63, .int .i64 192, .int .i64 14, .int .i64 32, .int .i64 36]) := by
  refine walk good_at Try.func43 rfl (by simp [Try.ntmps43]) (by kernel_rfl) ?_
  simp [Try.ntmps43, Try.results43, h0]

theorem good_classicR : Good Try.prog (lookO [(43, pureO classicRF), (30, pureO atF), (69, pureO beamF), (35, pureO whereF), (34, pureO attrF), (36, pureO pixelF), (71, pureO onF), (25, pureO pickF), (17, pureO livesF), (24, pureO pulsesF), (23, pureO nextF), (22, pureO classicF), (21, pureO spotF), (20, pureO pulseF), (67, pureO mayF), (19, pureO lengthF), (18, pureO checkF)]) := by
  refine Good.pure good_at _ _ ?_
  intro xs v h
  obtain ⟨rfl, rfl⟩ := classicRF_some h
  exact ⟨by simp, by simp, classicR_sc ⟩


def livesBF : List AV → Option AV
  | [] => some (.bool true)
  | _ => none
@[simp] theorem livesBF_ap  : livesBF [] = some (.bool true) := rfl
theorem livesBF_some {xs : List AV} {v : AV} (h : livesBF xs = some v) : xs = [] ∧ v = .bool true := by
  unfold livesBF at h
  split at h
  · cases h; exact ⟨rfl, rfl⟩
  · cases h
theorem livesB_sc  : SC Try.prog 26 [] h0 (fun u _ => u = .bool true) := by
  refine walk good_classicR Try.func26 rfl (by simp [Try.ntmps26]) (by kernel_rfl) ?_
  simp [Try.ntmps26, Try.results26, h0]
  have a1 : atA 311 228 63 192 14 32 36 14378 = .tup [.agg [.int .i64 1, .int .i64 0, .int .i64 0], .int .i64 0] := by kernel_rfl
  have a2 : atA 311 228 63 192 14 32 36 14379 = .tup [.agg [.int .i64 2, .int .i64 0, .int .i64 0], .int .i64 0] := by kernel_rfl
  have a3 : atA 311 228 63 192 14 32 36 14380 = .tup [.agg [.int .i64 1, .int .i64 1, .int .i64 0], .int .i64 0] := by kernel_rfl
  have a4 : atA 311 228 63 192 14 32 36 14382 = .tup [.agg [.int .i64 0, .int .i64 0, .int .i64 0], .int .i64 0] := by kernel_rfl
  have a5 : pixelA 0 1 = .tup [.int .i64 256, .bool true] := by kernel_rfl
  have a6 : pixelA 31 191 = .tup [.int .i64 6143, .bool true] := by kernel_rfl
  simp [a1, a2, a3, a4, a5, a6]
theorem good_livesB : Good Try.prog (lookO [(26, pureO livesBF), (43, pureO classicRF), (30, pureO atF), (69, pureO beamF), (35, pureO whereF), (34, pureO attrF), (36, pureO pixelF), (71, pureO onF), (25, pureO pickF), (17, pureO livesF), (24, pureO pulsesF), (23, pureO nextF), (22, pureO classicF), (21, pureO spotF), (20, pureO pulseF), (67, pureO mayF), (19, pureO lengthF), (18, pureO checkF)]) := by
  refine Good.pure good_classicR _ _ ?_
  intro xs v h
  obtain ⟨rfl, rfl⟩ := livesBF_some h
  exact ⟨by simp, by simp, livesB_sc ⟩

end Go.Proofs.Ytnfelncgeihihaa.V
