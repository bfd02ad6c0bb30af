/- Own library, part 10: the rules by which simp walks. -/
import Derived.Test.YteneafgmcmgahaaV9
namespace Go.Proofs.Yteneafgmcmgahaa.V
open Go
set_option linter.unusedSimpArgs false
set_option linter.unusedVariables false

section
variable {P : Program} {orc : Orc} {n0 : Nat} {Q : Exit → AF → AH → Prop} {K : AF → AH → Prop} {fr : AF} {σ : AH}

@[simp ↓] theorem wpA_skip : wpA P orc n0 .skip Q K fr σ = K fr σ := (rfl)
@[simp ↓] theorem wpA_region {id : Nat} {l : List Oper} : wpA P orc n0 (.region id ⟨l⟩ false) Q K fr σ = opsA P orc l l K fr σ := by simp [wpA]
@[simp ↓] theorem wpA_draw {id : Nat} {l : List Oper} : wpA P orc n0 (.region id ⟨l⟩ true) Q K fr σ = opsD P orc l l K fr σ := by simp [wpA]
@[simp ↓] theorem wpA_seq {a b : Code} : wpA P orc n0 (.seq a b) Q K fr σ = wpA P orc n0 a Q (wpA P orc n0 b Q K) fr σ := (rfl)
/-- Where ways part (written so that simp does not walk on before it is known which). -/
def condS (P : Program) (orc : Orc) (n0 : Nat) (o : Option AV) (a b : Code) (Q : Exit → AF → AH → Prop) (K : AF → AH → Prop) (fr : AF) (σ : AH) : Prop := condA o (wpA P orc n0 a Q K fr σ) (wpA P orc n0 b Q K fr σ)
@[simp ↓] theorem wpA_cond {c : Operand} {a b : Code} : wpA P orc n0 (.cond c a b) Q K fr σ = condS P orc n0 (fr.ev c) a b Q K fr σ := (rfl)
@[simp] theorem condS_true {a b : Code} : condS P orc n0 (some (.bool true)) a b Q K fr σ = wpA P orc n0 a Q K fr σ := by simp [condS, condA]
@[simp] theorem condS_false {a b : Code} : condS P orc n0 (some (.bool false)) a b Q K fr σ = wpA P orc n0 b Q K fr σ := by simp [condS, condA]
theorem condS_if {p : Prop} [Decidable p] {a b : Code} (h1 : p → wpA P orc n0 a Q K fr σ) (h2 : ¬ p → wpA P orc n0 b Q K fr σ) : condS P orc n0 (some (.bool (decide p))) a b Q K fr σ := by
  by_cases h : p
  · simpa [condS, condA, h] using h1 h
  · simpa [condS, condA, h] using h2 h
theorem condS_bool {t : Bool} {a b : Code} (h1 : t = true → wpA P orc n0 a Q K fr σ) (h2 : t = false → wpA P orc n0 b Q K fr σ) : condS P orc n0 (some (.bool t)) a b Q K fr σ := by
  cases t
  · simpa [condS, condA] using h2 rfl
  · simpa [condS, condA] using h1 rfl
theorem condS_not {t : Bool} {a b : Code} (h1 : t = false → wpA P orc n0 a Q K fr σ) (h2 : t = true → wpA P orc n0 b Q K fr σ) : condS P orc n0 (some (.bool (!t))) a b Q K fr σ := by
  cases t
  · simpa [condS, condA] using h1 rfl
  · simpa [condS, condA] using h2 rfl
@[simp ↓] theorem wpA_block {id : Nat} {b : Code} : wpA P orc n0 (.block id b) Q K fr σ = wpA P orc n0 b (blkQ id Q K) K fr σ := (rfl)
@[simp ↓] theorem wpA_exit {id : Nat} : wpA P orc n0 (.exit id) Q K fr σ = Q (.exit id) fr σ := (rfl)
@[simp ↓] theorem wpA_ret : wpA P orc n0 .ret Q K fr σ = Q .ret fr σ := (rfl)
@[simp ↓] theorem wpA_loop {b : Code} : wpA P orc n0 (.loop b) Q K fr σ = WL P n0 b (comb Q K) fr σ := (rfl)
@[simp ↓] theorem wpA_scope {b : Code} : wpA P orc n0 (.scope b) Q K fr σ = wpA P orc n0 b (noGo Q) K fr σ := (rfl)
@[simp ↓] theorem wpA_label {l : Nat} : wpA P orc n0 (.label l) Q K fr σ = K fr σ := (rfl)

@[simp ↓] theorem blkQ_exit {id i : Nat} : blkQ id Q K (.exit i) fr σ = if i = id then K fr σ else Q (.exit i) fr σ := (rfl)
@[simp ↓] theorem blkQ_ret {id : Nat} : blkQ id Q K .ret fr σ = Q .ret fr σ := (rfl)
@[simp ↓] theorem blkQ_normal {id : Nat} : blkQ id Q K .normal fr σ = Q .normal fr σ := (rfl)
@[simp ↓] theorem comb_exit {i : Nat} : comb Q K (.exit i) fr σ = Q (.exit i) fr σ := (rfl)
@[simp ↓] theorem comb_ret : comb Q K .ret fr σ = Q .ret fr σ := (rfl)
@[simp ↓] theorem comb_normal : comb Q K .normal fr σ = K fr σ := (rfl)
@[simp ↓] theorem noGo_exit {i : Nat} : noGo Q (.exit i) fr σ = Q (.exit i) fr σ := (rfl)
@[simp ↓] theorem noGo_ret : noGo Q .ret fr σ = Q .ret fr σ := (rfl)
@[simp ↓] theorem noGo_normal : noGo Q .normal fr σ = Q .normal fr σ := (rfl)

/-- Where an operation is left out. -/
def skipA (dst : Option Nat) (fr : AF) (σ : AH) (K : AF → AH → Prop) : Prop := K (fr.put dst unk) σ
@[simp ↓] theorem opsA_nil {all : List Oper} : opsA P orc all [] K fr σ = K fr σ := (rfl)
def guardS (P : Program) (orc : Orc) (all : List Oper) (t : Option Bool) (x : Oper) (r : List Oper) (K : AF → AH → Prop) (fr : AF) (σ : AH) : Prop :=
  guardA t (opA P orc x fr σ (opsA P orc all r K)) (skipA x.dst fr σ (opsA P orc all r K))
def guardT (P : Program) (orc : Orc) (all : List Oper) (t : Option Bool) (x : Oper) (r : List Oper) (K : AF → AH → Prop) (fr : AF) (σ : AH) : Prop :=
  guardA t (opD P orc x fr σ (opsD P orc all r K)) (skipA x.dst fr σ (opsD P orc all r K))
@[simp ↓] theorem opsA_plain {all : List Oper} {d : Option Nat} {op : Op} {ty : Nat} {pos : String} {af : Array Edge} {r : List Oper} :
    opsA P orc all (⟨d, op, ty, pos, af, none⟩ :: r) K fr σ = opA P orc ⟨d, op, ty, pos, #[], none⟩ fr σ (opsA P orc all r K) := by
  simp only [opsA, opA, wantA, guardA, if_true]
@[simp ↓] theorem opsA_cons {all : List Oper} {d : Option Nat} {op : Op} {ty : Nat} {pos : String} {af : Array Edge} {g : Nat × Bool} {r : List Oper} :
    opsA P orc all (⟨d, op, ty, pos, af, some g⟩ :: r) K fr σ = guardS P orc all (wantA all fr (some g)) ⟨d, op, ty, pos, #[], none⟩ r K fr σ := by
  simp only [opsA, opA, skipA, guardS]
@[simp] theorem guardS_true {all : List Oper} {x : Oper} {r : List Oper} : guardS P orc all (some true) x r K fr σ = opA P orc x fr σ (opsA P orc all r K) := by simp [guardS, guardA]
@[simp] theorem guardS_false {all : List Oper} {x : Oper} {r : List Oper} : guardS P orc all (some false) x r K fr σ = skipA x.dst fr σ (opsA P orc all r K) := by simp [guardS, guardA]
theorem guardS_if {p : Prop} [Decidable p] {all : List Oper} {x : Oper} {r : List Oper} (h1 : p → opA P orc x fr σ (opsA P orc all r K)) (h2 : ¬ p → skipA x.dst fr σ (opsA P orc all r K)) : guardS P orc all (some (decide p)) x r K fr σ := by
  by_cases h : p
  · simpa [guardS, guardA, h] using h1 h
  · simpa [guardS, guardA, h] using h2 h
theorem guardS_bool {t : Bool} {all : List Oper} {x : Oper} {r : List Oper} (h1 : t = true → opA P orc x fr σ (opsA P orc all r K)) (h2 : t = false → skipA x.dst fr σ (opsA P orc all r K)) : guardS P orc all (some t) x r K fr σ := by
  cases t
  · simpa [guardS, guardA] using h2 rfl
  · simpa [guardS, guardA] using h1 rfl
theorem guardS_not {t : Bool} {all : List Oper} {x : Oper} {r : List Oper} (h1 : t = false → opA P orc x fr σ (opsA P orc all r K)) (h2 : t = true → skipA x.dst fr σ (opsA P orc all r K)) : guardS P orc all (some (!t)) x r K fr σ := by
  cases t
  · simpa [guardS, guardA] using h1 rfl
  · simpa [guardS, guardA] using h2 rfl
@[simp ↓] theorem opsD_nil {all : List Oper} : opsD P orc all [] K fr σ = K fr σ := (rfl)
@[simp ↓] theorem opsD_plain {all : List Oper} {d : Option Nat} {op : Op} {ty : Nat} {pos : String} {af : Array Edge} {r : List Oper} :
    opsD P orc all (⟨d, op, ty, pos, af, none⟩ :: r) K fr σ = opD P orc ⟨d, op, ty, pos, #[], none⟩ fr σ (opsD P orc all r K) := by
  simp only [opsD, opD, wantA, guardA, if_true]
@[simp ↓] theorem opsD_cons {all : List Oper} {d : Option Nat} {op : Op} {ty : Nat} {pos : String} {af : Array Edge} {g : Nat × Bool} {r : List Oper} :
    opsD P orc all (⟨d, op, ty, pos, af, some g⟩ :: r) K fr σ = guardT P orc all (wantA all fr (some g)) ⟨d, op, ty, pos, #[], none⟩ r K fr σ := by
  simp only [opsD, opD, skipA, guardT]
@[simp] theorem guardT_true {all : List Oper} {x : Oper} {r : List Oper} : guardT P orc all (some true) x r K fr σ = opD P orc x fr σ (opsD P orc all r K) := by simp [guardT, guardA]
@[simp] theorem guardT_false {all : List Oper} {x : Oper} {r : List Oper} : guardT P orc all (some false) x r K fr σ = skipA x.dst fr σ (opsD P orc all r K) := by simp [guardT, guardA]
theorem guardT_if {p : Prop} [Decidable p] {all : List Oper} {x : Oper} {r : List Oper} (h1 : p → opD P orc x fr σ (opsD P orc all r K)) (h2 : ¬ p → skipA x.dst fr σ (opsD P orc all r K)) : guardT P orc all (some (decide p)) x r K fr σ := by
  by_cases h : p
  · simpa [guardT, guardA, h] using h1 h
  · simpa [guardT, guardA, h] using h2 h
theorem guardT_bool {t : Bool} {all : List Oper} {x : Oper} {r : List Oper} (h1 : t = true → opD P orc x fr σ (opsD P orc all r K)) (h2 : t = false → skipA x.dst fr σ (opsD P orc all r K)) : guardT P orc all (some t) x r K fr σ := by
  cases t
  · simpa [guardT, guardA] using h2 rfl
  · simpa [guardT, guardA] using h1 rfl
theorem guardT_not {t : Bool} {all : List Oper} {x : Oper} {r : List Oper} (h1 : t = false → opD P orc x fr σ (opsD P orc all r K)) (h2 : t = true → skipA x.dst fr σ (opsD P orc all r K)) : guardT P orc all (some (!t)) x r K fr σ := by
  cases t
  · simpa [guardT, guardA] using h1 rfl
  · simpa [guardT, guardA] using h2 rfl
@[simp] theorem resA_put {v : AV} {d n : Nat} {l : List (Nat × AV)} (h : d < n) : resA (some (v, σ)) (some d) ⟨n, l⟩ K = K ⟨n, (d, v) :: l⟩ σ := by
  simp [resA, AF.put, h]
@[simp] theorem resA_no {v : AV} : resA (some (v, σ)) none fr K = K fr σ := (rfl)
@[simp] theorem resA_none {d : Option Nat} : resA none d fr K = False := (rfl)
@[simp] theorem skipA_put {d n : Nat} {l : List (Nat × AV)} (h : d < n) : skipA (some d) ⟨n, l⟩ σ K = K ⟨n, (d, unk) :: l⟩ σ := by
  simp [skipA, AF.put, h]
@[simp] theorem skipA_no : skipA none fr σ K = K fr σ := (rfl)

/-- What follows a call. -/
def thenK (dst : Option Nat) (fr : AF) (K : AF → AH → Prop) : AV → AH → Prop := fun v σ => resA (some (v, σ)) dst fr K
@[simp] theorem thenK_ap {dst : Option Nat} {v : AV} : thenK dst fr K v σ = resA (some (v, σ)) dst fr K := (rfl)
/-- A call, by its oracle or by a contract. -/
def goA (P : Program) (o : Option (List AV → AH → Option (AV × AH))) (g : Nat) (as : List AV) (dst : Option Nat) (fr : AF) (σ : AH) (K : AF → AH → Prop) : Prop := match o with
  | some f => resA (f as σ) dst fr K
  | none => SC P g as σ (thenK dst fr K)
@[simp] theorem goA_some {f : List AV → AH → Option (AV × AH)} {g : Nat} {as : List AV} {dst : Option Nat} : goA P (some f) g as dst fr σ K = resA (f as σ) dst fr K := (rfl)
@[simp] theorem goA_none {g : Nat} {as : List AV} {dst : Option Nat} : goA P none g as dst fr σ K = SC P g as σ (thenK dst fr K) := (rfl)
@[simp] theorem callA_some {g : Nat} {as : List AV} {dst : Option Nat} : callA P orc (some (g, as)) dst fr σ K = goA P (orc g) g as dst fr σ K := by
  simp only [callA, goA]
  cases orc g <;> rfl
@[simp] theorem callA_none {dst : Option Nat} : callA P orc none dst fr σ K = False := (rfl)
def goD (o : Option (List AV → AH → Option (AV × AH))) (as : List AV) (dst : Option Nat) (fr : AF) (σ : AH) (K : AF → AH → Prop) : Prop := match o with
  | some f => resA (f as σ) dst fr K
  | none => False
@[simp] theorem goD_some {f : List AV → AH → Option (AV × AH)} {as : List AV} {dst : Option Nat} : goD (some f) as dst fr σ K = resA (f as σ) dst fr K := (rfl)
@[simp] theorem callD_some {g : Nat} {as : List AV} {dst : Option Nat} : callD orc (some (g, as)) dst fr σ K = goD (orc g) as dst fr σ K := by
  simp only [callD, goD]
  cases orc g <;> rfl
@[simp] theorem callD_none {dst : Option Nat} : callD orc none dst fr σ K = False := (rfl)

-- one operation, by its form
section ops
variable {d : Option Nat} {ty : Nat} {pos : String} {af : Array Edge} {g : Option (Nat × Bool)}
@[simp ↓] theorem opA_call {f : Operand} {args : Array Operand} {ts : Array Nat} : opA P orc ⟨d, .call ⟨.value f, args, ts⟩, ty, pos, af, g⟩ fr σ K = callA P orc (calleeA P ⟨.value f, args, ts⟩ fr.ev σ) d fr σ K := (rfl)
@[simp ↓] theorem opA_builtin {b : Builtin} {args : Array Operand} {ts : Array Nat} : opA P orc ⟨d, .call ⟨.builtin b, args, ts⟩, ty, pos, af, g⟩ fr σ K = resA (aop P (.call ⟨.builtin b, args, ts⟩) fr.ev σ) d fr K := (rfl)
@[simp ↓] theorem opA_move {x : Operand} : opA P orc ⟨d, .move x, ty, pos, af, g⟩ fr σ K = resA (retV σ (fr.ev x)) d fr K := (rfl)
@[simp ↓] theorem opA_assign {x : Operand} : opA P orc ⟨d, .assign x, ty, pos, af, g⟩ fr σ K = resA (retV σ (fr.ev x)) d fr K := (rfl)
@[simp ↓] theorem opA_pick {c x y : Operand} : opA P orc ⟨d, .pick c x y, ty, pos, af, g⟩ fr σ K = resA (aop P (.pick c x y) fr.ev σ) d fr K := (rfl)
@[simp ↓] theorem opA_alloc {t : Nat} : opA P orc ⟨d, .alloc t, ty, pos, af, g⟩ fr σ K = resA (aAlloc P t σ) d fr K := (rfl)
@[simp ↓] theorem opA_box {t : Nat} {x : Operand} : opA P orc ⟨d, .box t x, ty, pos, af, g⟩ fr σ K = resA (aop P (.box t x) fr.ev σ) d fr K := (rfl)
@[simp ↓] theorem opA_build {t : Nat} {ps : Array (Nat × Operand)} : opA P orc ⟨d, .build t ps, ty, pos, af, g⟩ fr σ K = resA (aop P (.build t ps) fr.ev σ) d fr K := (rfl)
@[simp ↓] theorem opA_buildSlice {t n : Nat} {ps : Array (Nat × Operand)} : opA P orc ⟨d, .buildSlice t n ps, ty, pos, af, g⟩ fr σ K = resA (aop P (.buildSlice t n ps) fr.ev σ) d fr K := (rfl)
@[simp ↓] theorem opA_load {t : Nat} {x : Operand} : opA P orc ⟨d, .load t x, ty, pos, af, g⟩ fr σ K = resA (aop P (.load t x) fr.ev σ) d fr K := (rfl)
@[simp ↓] theorem opA_store {t : Nat} {x y : Operand} : opA P orc ⟨d, .store t x y, ty, pos, af, g⟩ fr σ K = resA (aop P (.store t x y) fr.ev σ) d fr K := (rfl)
@[simp ↓] theorem opA_nil {x : Operand} : opA P orc ⟨d, .nilCheck x, ty, pos, af, g⟩ fr σ K = resA (aop P (.nilCheck x) fr.ev σ) d fr K := (rfl)
@[simp ↓] theorem opA_bin {b : BinOp} {t t' : Nat} {x y : Operand} : opA P orc ⟨d, .binOp b t x y t', ty, pos, af, g⟩ fr σ K = resA (aop P (.binOp b t x y t') fr.ev σ) d fr K := (rfl)
@[simp ↓] theorem opA_un {b : UnOp} {t : Nat} {x : Operand} : opA P orc ⟨d, .unOp b t x, ty, pos, af, g⟩ fr σ K = resA (aop P (.unOp b t x) fr.ev σ) d fr K := (rfl)
@[simp ↓] theorem opA_conv {s t : Nat} {x : Operand} : opA P orc ⟨d, .convert s t x, ty, pos, af, g⟩ fr σ K = resA (aop P (.convert s t x) fr.ev σ) d fr K := (rfl)
@[simp ↓] theorem opA_iface {t : Nat} {x : Operand} : opA P orc ⟨d, .makeInterface t x, ty, pos, af, g⟩ fr σ K = resA (aop P (.makeInterface t x) fr.ev σ) d fr K := (rfl)
@[simp ↓] theorem opA_func {fn : Fn} {a b : Array Operand} : opA P orc ⟨d, .makeFunc fn a b, ty, pos, af, g⟩ fr σ K = resA (aop P (.makeFunc fn a b) fr.ev σ) d fr K := (rfl)
@[simp ↓] theorem opA_mkslice {t : Nat} {x y : Operand} : opA P orc ⟨d, .makeSlice t x y, ty, pos, af, g⟩ fr σ K = resA (aop P (.makeSlice t x y) fr.ev σ) d fr K := (rfl)
@[simp ↓] theorem opA_slice {t : Nat} {x : Operand} {a b c : Option Operand} : opA P orc ⟨d, .slice t x a b c, ty, pos, af, g⟩ fr σ K = resA (aop P (.slice t x a b c) fr.ev σ) d fr K := (rfl)
@[simp ↓] theorem opA_fieldAddr {t f : Nat} {x : Operand} : opA P orc ⟨d, .fieldAddr t x f, ty, pos, af, g⟩ fr σ K = resA (aop P (.fieldAddr t x f) fr.ev σ) d fr K := (rfl)
@[simp ↓] theorem opA_field {t f : Nat} {x : Operand} : opA P orc ⟨d, .field t x f, ty, pos, af, g⟩ fr σ K = resA (aop P (.field t x f) fr.ev σ) d fr K := (rfl)
@[simp ↓] theorem opA_indexAddr {t : Nat} {x i : Operand} : opA P orc ⟨d, .indexAddr t x i, ty, pos, af, g⟩ fr σ K = resA (aop P (.indexAddr t x i) fr.ev σ) d fr K := (rfl)
@[simp ↓] theorem opA_index {t : Nat} {x i : Operand} : opA P orc ⟨d, .index t x i, ty, pos, af, g⟩ fr σ K = resA (aop P (.index t x i) fr.ev σ) d fr K := (rfl)
@[simp ↓] theorem opA_extract {i : Nat} {x : Operand} : opA P orc ⟨d, .extract x i, ty, pos, af, g⟩ fr σ K = resA (aop P (.extract x i) fr.ev σ) d fr K := (rfl)
@[simp ↓] theorem opD_call {f : Operand} {args : Array Operand} {ts : Array Nat} : opD P orc ⟨d, .call ⟨.value f, args, ts⟩, ty, pos, af, g⟩ fr σ K = callD orc (calleeA P ⟨.value f, args, ts⟩ fr.ev σ) d fr σ K := (rfl)
theorem opD_other {op : Op} (h : callOf op = none) : opD P orc ⟨d, op, ty, pos, af, g⟩ fr σ K = opA P orc ⟨d, op, ty, pos, af, g⟩ fr σ K := by simp only [opD, opA, h]
@[simp ↓] theorem opD_builtin {b : Builtin} {args : Array Operand} {ts : Array Nat} : opD P orc ⟨d, .call ⟨.builtin b, args, ts⟩, ty, pos, af, g⟩ fr σ K = resA (aop P (.call ⟨.builtin b, args, ts⟩) fr.ev σ) d fr K := (rfl)
@[simp ↓] theorem opD_move {x : Operand} : opD P orc ⟨d, .move x, ty, pos, af, g⟩ fr σ K = resA (retV σ (fr.ev x)) d fr K := (rfl)
@[simp ↓] theorem opD_assign {x : Operand} : opD P orc ⟨d, .assign x, ty, pos, af, g⟩ fr σ K = resA (retV σ (fr.ev x)) d fr K := (rfl)
@[simp ↓] theorem opD_pick {c x y : Operand} : opD P orc ⟨d, .pick c x y, ty, pos, af, g⟩ fr σ K = resA (aop P (.pick c x y) fr.ev σ) d fr K := (rfl)
@[simp ↓] theorem opD_alloc {t : Nat} : opD P orc ⟨d, .alloc t, ty, pos, af, g⟩ fr σ K = resA (aAlloc P t σ) d fr K := (rfl)
@[simp ↓] theorem opD_box {t : Nat} {x : Operand} : opD P orc ⟨d, .box t x, ty, pos, af, g⟩ fr σ K = resA (aop P (.box t x) fr.ev σ) d fr K := (rfl)
@[simp ↓] theorem opD_build {t : Nat} {ps : Array (Nat × Operand)} : opD P orc ⟨d, .build t ps, ty, pos, af, g⟩ fr σ K = resA (aop P (.build t ps) fr.ev σ) d fr K := (rfl)
@[simp ↓] theorem opD_buildSlice {t n : Nat} {ps : Array (Nat × Operand)} : opD P orc ⟨d, .buildSlice t n ps, ty, pos, af, g⟩ fr σ K = resA (aop P (.buildSlice t n ps) fr.ev σ) d fr K := (rfl)
@[simp ↓] theorem opD_load {t : Nat} {x : Operand} : opD P orc ⟨d, .load t x, ty, pos, af, g⟩ fr σ K = resA (aop P (.load t x) fr.ev σ) d fr K := (rfl)
@[simp ↓] theorem opD_store {t : Nat} {x y : Operand} : opD P orc ⟨d, .store t x y, ty, pos, af, g⟩ fr σ K = resA (aop P (.store t x y) fr.ev σ) d fr K := (rfl)
@[simp ↓] theorem opD_nil {x : Operand} : opD P orc ⟨d, .nilCheck x, ty, pos, af, g⟩ fr σ K = resA (aop P (.nilCheck x) fr.ev σ) d fr K := (rfl)
@[simp ↓] theorem opD_bin {b : BinOp} {t t' : Nat} {x y : Operand} : opD P orc ⟨d, .binOp b t x y t', ty, pos, af, g⟩ fr σ K = resA (aop P (.binOp b t x y t') fr.ev σ) d fr K := (rfl)
@[simp ↓] theorem opD_un {b : UnOp} {t : Nat} {x : Operand} : opD P orc ⟨d, .unOp b t x, ty, pos, af, g⟩ fr σ K = resA (aop P (.unOp b t x) fr.ev σ) d fr K := (rfl)
@[simp ↓] theorem opD_conv {s t : Nat} {x : Operand} : opD P orc ⟨d, .convert s t x, ty, pos, af, g⟩ fr σ K = resA (aop P (.convert s t x) fr.ev σ) d fr K := (rfl)
@[simp ↓] theorem opD_iface {t : Nat} {x : Operand} : opD P orc ⟨d, .makeInterface t x, ty, pos, af, g⟩ fr σ K = resA (aop P (.makeInterface t x) fr.ev σ) d fr K := (rfl)
@[simp ↓] theorem opD_func {fn : Fn} {a b : Array Operand} : opD P orc ⟨d, .makeFunc fn a b, ty, pos, af, g⟩ fr σ K = resA (aop P (.makeFunc fn a b) fr.ev σ) d fr K := (rfl)
@[simp ↓] theorem opD_mkslice {t : Nat} {x y : Operand} : opD P orc ⟨d, .makeSlice t x y, ty, pos, af, g⟩ fr σ K = resA (aop P (.makeSlice t x y) fr.ev σ) d fr K := (rfl)
@[simp ↓] theorem opD_slice {t : Nat} {x : Operand} {a b c : Option Operand} : opD P orc ⟨d, .slice t x a b c, ty, pos, af, g⟩ fr σ K = resA (aop P (.slice t x a b c) fr.ev σ) d fr K := (rfl)
@[simp ↓] theorem opD_fieldAddr {t f : Nat} {x : Operand} : opD P orc ⟨d, .fieldAddr t x f, ty, pos, af, g⟩ fr σ K = resA (aop P (.fieldAddr t x f) fr.ev σ) d fr K := (rfl)
@[simp ↓] theorem opD_field {t f : Nat} {x : Operand} : opD P orc ⟨d, .field t x f, ty, pos, af, g⟩ fr σ K = resA (aop P (.field t x f) fr.ev σ) d fr K := (rfl)
@[simp ↓] theorem opD_indexAddr {t : Nat} {x i : Operand} : opD P orc ⟨d, .indexAddr t x i, ty, pos, af, g⟩ fr σ K = resA (aop P (.indexAddr t x i) fr.ev σ) d fr K := (rfl)
@[simp ↓] theorem opD_index {t : Nat} {x i : Operand} : opD P orc ⟨d, .index t x i, ty, pos, af, g⟩ fr σ K = resA (aop P (.index t x i) fr.ev σ) d fr K := (rfl)
@[simp ↓] theorem opD_extract {i : Nat} {x : Operand} : opD P orc ⟨d, .extract x i, ty, pos, af, g⟩ fr σ K = resA (aop P (.extract x i) fr.ev σ) d fr K := (rfl)
end ops

-- operands, frames, the heap
@[simp] theorem ev_tmp {n : Nat} {l : List (Nat × AV)} {t : Nat} : AF.ev ⟨n, l⟩ (.tmp t) = lookF l t := (rfl)
@[simp] theorem ev_func {f : Nat} : fr.ev (.func f) = some (.func (.func f) [] []) := (rfl)
@[simp] theorem ev_int {k : IntKind} {n : Int} : fr.ev (.const (.int k n)) = some (.int k n) := (rfl)
@[simp] theorem ev_bool {b : Bool} : fr.ev (.const (.bool b)) = some (.bool b) := (rfl)
@[simp] theorem ev_str {s : ByteArray} : fr.ev (.const (.string s)) = some (.str s) := (rfl)
@[simp] theorem ev_const {v : Value} : fr.ev (.const v) = ofVal v := (rfl)
@[simp] theorem lookF_nil {t : Nat} : lookF [] t = none := (rfl)
@[simp] theorem lookF_hit {t : Nat} {v : AV} {r : List (Nat × AV)} : lookF ((t, v) :: r) t = some v := by simp [lookF]
@[simp] theorem lookF_miss {k t : Nat} {v : AV} {r : List (Nat × AV)} (h : k ≠ t) : lookF ((k, v) :: r) t = lookF r t := by
  simp [lookF, h]
@[simp] theorem lookH_nil {t : Nat} : lookH [] t = .dead := (rfl)
@[simp] theorem lookH_hit {t : Nat} {v : AObj} {r : List (Nat × AObj)} : lookH ((t, v) :: r) t = v := by simp [lookH]
@[simp] theorem lookH_miss {k t : Nat} {v : AObj} {r : List (Nat × AObj)} (h : k ≠ t) : lookH ((k, v) :: r) t = lookH r t := by
  simp [lookH, h]
@[simp] theorem setH_hit {t : Nat} {v o : AObj} {r : List (Nat × AObj)} : setH ((t, v) :: r) t o = (t, o) :: r := by simp [setH]
@[simp] theorem setH_miss {k t : Nat} {v o : AObj} {r : List (Nat × AObj)} (h : k ≠ t) : setH ((k, v) :: r) t o = (k, v) :: setH r t o := by
  simp [setH, h]
@[simp] theorem get_mk {n : Nat} {m : List (Nat × AObj)} {b : Nat} : AH.get ⟨n, m⟩ b = lookH m b := (rfl)
@[simp] theorem set_mk {n : Nat} {m : List (Nat × AObj)} {b : Nat} {o : AObj} : AH.set ⟨n, m⟩ b o = ⟨n, setH m b o⟩ := (rfl)
@[simp] theorem push_mk {n : Nat} {m : List (Nat × AObj)} {o : AObj} : AH.push ⟨n, m⟩ o = ⟨n + 1, (n, o) :: m⟩ := (rfl)
@[simp] theorem nx_mk {n : Nat} {m : List (Nat × AObj)} : AH.nx ⟨n, m⟩ = n := (rfl)
attribute [simp] AObj.cs? AObj.upd AObj.wr AV.cells AV.one splice evs evp evo retV un1 un2 aAlloc aBox aLoad aStore aPart aFieldAddr aField aIndexAddr aBounds aSlice aInt aShift aStr eqG isC aCmp aBin aUn aConv toInts aSrc aAppend aCopy aLen aMinMax aFill aBuild aBuildSlice aMakeSlice aNil aBuiltin aop
attribute [simp] ofVal ofFlat ofFlats
attribute [simp] aAssert taK taD taYes taNo zeroV aCap methT rkD rkT recvA
attribute [simp] calleeA wantA aEq aEqFs aEqArr resultA resultsA pack retR enterL AF.enter rep
@[simp ↓] theorem retQ_ret {rs : List ResultVar} {Q : AV → AH → Prop} : retQ P rs Q .ret fr σ = retR (resultsA P fr σ rs) σ Q := (rfl)
@[simp ↓] theorem retQ_normal {rs : List ResultVar} {Q : AV → AH → Prop} : retQ P rs Q .normal fr σ = retR (resultsA P fr σ rs) σ Q := (rfl)
end

@[simp ↓] theorem roundQ_normal {Q : Exit → AF → AH → Prop} {N : AF → AH → Prop} {fr : AF} {σ : AH} : roundQ Q N .normal fr σ = N fr σ := (rfl)
@[simp ↓] theorem roundQ_exit {Q : Exit → AF → AH → Prop} {N : AF → AH → Prop} {fr : AF} {σ : AH} {i : Nat} : roundQ Q N (.exit i) fr σ = Q (.exit i) fr σ := (rfl)
@[simp ↓] theorem roundQ_ret {Q : Exit → AF → AH → Prop} {N : AF → AH → Prop} {fr : AF} {σ : AH} : roundQ Q N .ret fr σ = Q .ret fr σ := (rfl)

/-- A walk through a body. -/
theorem wp_walk {P : Program} {orc : Orc} (horc : OrcOk P orc) {n0 : Nat} {c : Code} {Q : Exit → AF → AH → Prop} {fr : AF} {σ : AH}
    (hd : ∀ ops ∈ drawsIn c, DrawOk P orc ops) (h : wpA P orc n0 c Q (Q .normal) fr σ) : WP P n0 c Q fr σ := by
  refine (wpA_sound horc c Q (Q .normal) fr σ hd h).mono ?_
  intro e fr σ q
  cases e <;> exact q
theorem wl_walk {P : Program} {orc : Orc} (horc : OrcOk P orc) {n0 : Nat} {c : Code} {Q : Exit → AF → AH → Prop} {fr : AF} {σ : AH}
    (hd : ∀ ops ∈ drawsIn c, DrawOk P orc ops) (h : wpA P orc n0 c Q (WL P n0 c Q) fr σ) : WL P n0 c Q fr σ := by
  refine WL_round ?_
  refine (wpA_sound horc c Q (WL P n0 c Q) fr σ hd h).mono ?_
  intro e fr σ q
  cases e <;> exact q
theorem orc_none (P : Program) : OrcOk P (fun _ => none) := fun _ _ h => by cases h

end Go.Proofs.Yteneafgmcmgahaa.V
