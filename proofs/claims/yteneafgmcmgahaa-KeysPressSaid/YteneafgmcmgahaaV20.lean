/- Own library, part 20: a program run on known values, by reckoning; regions that draw their order by part 19. -/
import Derived.Test.YteneafgmcmgahaaV16
import Derived.Test.YteneafgmcmgahaaV19
namespace Go.Proofs.Yteneafgmcmgahaa.V
open Go
set_option linter.unusedSimpArgs false
set_option linter.unusedVariables false

variable {P : Program}

-- ------------------------------------------------------------------ what may be written
mutual
def AV.ptrs : AV → List Nat
  | .ptr b _ => [b]
  | .slice b _ _ _ => [b]
  | .map b => [b]
  | .func _ f c => ptrsL f ++ ptrsL c
  | .iface _ v => AV.ptrs v
  | .agg cs => ptrsL cs
  | .tup vs => ptrsL vs
  | _ => []
def ptrsL : List AV → List Nat
  | [] => []
  | v :: r => AV.ptrs v ++ ptrsL r
end
def ptrsP : List (AV × AV) → List Nat
  | [] => []
  | (k, v) :: r => AV.ptrs k ++ (AV.ptrs v ++ ptrsP r)
def AObj.ptrs : AObj → List Nat
  | .cells _ cs => ptrsL cs
  | .opn _ _ cs => ptrsL cs
  | .ro cs => ptrsL cs
  | .mp es => ptrsP es
  | .dead => []
def reach (σ : AH) : Nat → List Nat → List Nat → List Nat
  | 0, _, seen => seen
  | k + 1, l, seen => match l with
    | [] => seen
    | b :: r => if memN b seen = true then reach σ k r seen else reach σ k ((σ.get b).ptrs ++ r) (b :: seen)
def blkA : Option AV → List Nat
  | some (.ptr b _) => [b]
  | some (.slice b _ _ _) => [b]
  | some (.map b) => [b]
  | _ => []
def fpO (P : Program) (qt : List Nat) (o : Oper) (fr : AF) (σ : AH) : List Nat :=
  match o.op with
  | .store _ x _ => blkA (fr.ev x)
  | .slice _ x _ _ _ => match fr.ev x with
    | some (.slice b _ _ none) => match σ.get b with
      | .opn _ _ _ => [b]
      | _ => []
    | _ => []
  | .lookup _ x _ _ => blkA (fr.ev x)
  | .call c => match c.callee with
    | .builtin .append => match c.args.toList with
      | x :: _ => blkA (fr.ev x)
      | [] => []
    | .builtin .copy => match c.args.toList with
      | x :: _ => blkA (fr.ev x)
      | [] => []
    | .builtin _ => []
    | _ => match calleeA P c fr.ev σ with
      | some (g, xs) => if memN g qt = true then [] else reach σ 1000 (ptrsL xs) []
      | none => []
  | _ => []
def mayW (qt : List Nat) (o : Oper) : Bool :=
  match o.op with
  | .store _ _ _ => true
  | .slice _ _ _ _ _ => true
  | .lookup _ _ _ _ => true
  | .call c => match c.callee with
    | .builtin .append => true
    | .builtin .copy => true
    | .builtin _ => false
    | .value (.func g) => !memN g qt
    | _ => true
  | _ => false
def fpsRun (P : Program) (orc : Orc) (qt : List Nat) (all : List Oper) : List Oper → AF → AH → List (List Nat)
  | [], _, _ => []
  | o :: r, fr, σ => if (o :: r).any (mayW qt) = true then
      (match wantA all fr o.guard with
      | some true => match opF P orc o fr.ev σ with
        | some (v, τ) => fpO P qt o fr σ :: fpsRun P orc qt all r (fr.put o.dst v) τ
        | none => []
      | _ => [] :: fpsRun P orc qt all r (fr.put o.dst unk) σ)
    else []

-- ------------------------------------------------------------------ operations that leave the heap
def pureOp : Op → Bool
  | .move _ | .assign _ | .pick _ _ _ | .build _ _ | .load _ _ | .nilCheck _ | .binOp _ _ _ _ _ | .unOp _ _ _ | .convert _ _ _ | .makeInterface _ _ | .makeFunc _ _ _
  | .slice _ _ _ _ _ | .fieldAddr _ _ _ | .field _ _ _ | .indexAddr _ _ _ | .index _ _ _ | .extract _ _ | .typeAssert _ _ _ _ => true
  | _ => false
theorem aop_pure {op : Op} {ev : Operand → Option AV} {σ σ1 : AH} {v : AV} (hq : pureOp op = true) (h : aop P op ev σ = some (v, σ1)) : σ1 = σ := by
  have ret : ∀ {x : Option AV}, retV σ x = some (v, σ1) → σ1 = σ := fun e => by obtain ⟨_, rfl⟩ := retV_some e; rfl
  unfold aop at h
  split at h
  all_goals first
    | exact ret h
    | (cases hq; done)
    | (obtain ⟨u, _, h2⟩ := un1_some h; exact ret h2)
    | (obtain ⟨u, u2, _, _, h2⟩ := un2_some h; exact ret h2)
    | skip
  · split at h
    · split at h <;> exact ret h
    · cases h
  · split at h
    · exact ret h
    · cases h
  · obtain ⟨u, _, h2⟩ := un1_some h
    split at h2
    · cases h2; rfl
    · cases h2
  · split at h
    · cases h; rfl
    · cases h
  · split at h
    · exact ret h
    · cases h
  · split at h
    · exact ret h
    · cases h
  · cases h
theorem pureOp_call {op : Op} (h : pureOp op = true) : callOf op = none := by
  cases op <;> first | rfl | cases h

-- ------------------------------------------------------------------ a region that draws
def xOp (P : Program) (orc : Orc) (o : Oper) (fp kl : List Nat) (fr : AF) (σ : AH) : Option (AV × AH) :=
  match fp with
  | [] => match opF P orc o fr.ev (view [] kl σ) with
    | some (v, τ) => if pureOp o.op = true then some (v, σ) else if chkX [] kl σ τ = true then some (v, merge [] σ τ) else none
    | none => none
  | _ => match opF P orc o fr.ev (view fp kl σ) with
    | some (v, τ) => if chkX fp kl σ τ = true then some (v, merge fp σ τ) else none
    | none => none
def xOps (P : Program) (orc : Orc) (all : List Oper) (fps : List (List Nat)) : Nat → List Oper → AF → AH → Option (AF × AH)
  | _, [], fr, σ => some (fr, σ)
  | i, o :: r, fr, σ => match wantA all fr o.guard with
    | some true => match xOp P orc o (fps.getD i []) (killsAt (masks all []) i fps 0) fr σ with
      | some (v, σ1) => xOps P orc all fps (i + 1) r (fr.put o.dst v) σ1
      | none => none
    | some false => match fps.getD i [] with
      | [] => xOps P orc all fps (i + 1) r (fr.put o.dst unk) σ
      | _ => none
    | none => none
theorem chk_self (kl : List Nat) (σ τ : AH) (h : τ.nx = σ.nx) : chkX [] kl σ τ = true := by
  unfold chkX
  rw [h]
  have h1 : Nat.ble σ.nx σ.nx = true := by rw [Nat.ble_eq]; exact Nat.le_refl _
  have h2 : (kl.all fun b => Nat.blt b σ.nx || Nat.ble σ.nx b) = true := by
    rw [List.all_eq_true]
    intro b _
    by_cases q : b < σ.nx
    · rw [blt_iff.2 q]; rfl
    · have : Nat.ble σ.nx b = true := by rw [Nat.ble_eq]; omega
      rw [this]; simp
  rw [h1, h2]
  simp [newOk]
theorem merged_self (kl : List Nat) (σ : AH) : Merged [] σ (view [] kl σ) σ := by
  refine ⟨rfl, fun b hb => ?_⟩
  rw [if_pos ⟨hb, by simp⟩]
theorem xOp_run {orc : Orc} {o : Oper} {fp kl : List Nat} {fr : AF} {σ σ1 : AH} {v : AV} (h : xOp P orc o fp kl fr σ = some (v, σ1)) :
    ∃ τ, opF P orc o fr.ev (view fp kl σ) = some (v, τ) ∧ chkX fp kl σ τ = true ∧ Merged fp σ τ σ1 := by
  unfold xOp at h
  split at h
  · split at h
    · rename_i v' τ hq
      split at h
      · rename_i hp
        cases h
        have e : τ = view [] kl σ := by
          unfold opF at hq
          rw [pureOp_call hp] at hq
          exact aop_pure hp hq
        subst e
        exact ⟨_, hq, chk_self _ _ _ rfl, merged_self _ _⟩
      · split at h
        · rename_i hc
          cases h
          exact ⟨_, hq, hc, merge_ok _ _ _⟩
        · cases h
    · cases h
  · split at h
    · rename_i v' τ hq
      split at h
      · rename_i hc
        cases h
        exact ⟨_, hq, hc, merge_ok _ _ _⟩
      · cases h
    · cases h
theorem xOps_run {orc : Orc} {all : List Oper} {fps : List (List Nat)} : ∀ {r : List Oper} {i : Nat} {fr fr' : AF} {σ σ' : AH}, xOps P orc all fps i r fr σ = some (fr', σ') →
    XRun P orc all (fun i => fps.getD i []) (fun j => killsAt (masks all []) j fps 0) i r fr σ fr' σ'
  | [], i, fr, fr', σ, σ', h => by cases h; exact .nil
  | o :: r, i, fr, fr', σ, σ', h => by
    unfold xOps at h
    split at h
    · rename_i hw
      split at h
      · rename_i v σ1 hq
        obtain ⟨τ, h1, h2, h3⟩ := xOp_run hq
        exact .cons (by simp only [stepF, hw]; exact h1) h2 h3 (xOps_run h)
      · cases h
    · rename_i hw
      split at h
      · rename_i hf
        refine .cons (v := unk) (τ := view (fps.getD i []) (killsAt (masks all []) i fps 0) σ) (σ1 := σ) (by simp only [stepF, hw]) ?_ ?_ (xOps_run h)
        · rw [hf]; exact chk_self _ _ _ rfl
        · rw [hf]; exact merged_self _ _
      · cases h
    · cases h

-- ------------------------------------------------------------------ code
def orcF (orc : Orc) (F : Fun) : Orc := fun f => match orc f with
  | some o => some o
  | none => some (F f)
theorem orcF_ok {orc : Orc} {F : Fun} (h : OrcOk P orc) (hF : FunOk P F) : OrcOk P (orcF orc F) := by
  intro f o e xs σ v σ' ho
  unfold orcF at e
  split at e
  · rename_i q hq
    cases e
    exact h f _ hq xs σ v σ' ho
  · cases e
    exact hF f xs σ v σ' ho
def xDraw (P : Program) (orc : Orc) (F : Fun) (qt : List Nat) (ops : List Oper) (fr : AF) (σ : AH) : Option (AF × AH) :=
  xOps P (orcF orc F) ops (fpsRun P (orcF orc F) qt ops ops fr σ) 0 ops fr σ
def xC (P : Program) (orc : Orc) (F : Fun) (qt : List Nat) (k : Nat) : Code → AF → AH → Option (Exit × AF × AH)
  | .skip, fr, σ => some (.normal, fr, σ)
  | .label _, fr, σ => some (.normal, fr, σ)
  | .region _ ops d, fr, σ => match (if d = true then xDraw P orc F qt ops.toList fr σ else eOps P orc F ops.toList ops.toList fr σ) with
    | some (fr', σ') => some (.normal, fr', σ')
    | none => none
  | .seq a b, fr, σ => match xC P orc F qt k a fr σ with
    | some (.normal, fr', σ') => xC P orc F qt k b fr' σ'
    | some (e, fr', σ') => some (e, fr', σ')
    | none => none
  | .cond c a b, fr, σ => match fr.ev c with
    | some (.bool true) => xC P orc F qt k a fr σ
    | some (.bool false) => xC P orc F qt k b fr σ
    | _ => none
  | .block id b, fr, σ => match xC P orc F qt k b fr σ with
    | some (.exit i, fr', σ') => if i = id then some (.normal, fr', σ') else some (.exit i, fr', σ')
    | some (e, fr', σ') => some (e, fr', σ')
    | none => none
  | .scope b, fr, σ => match xC P orc F qt k b fr σ with
    | some (.goto _, _, _) => none
    | r => r
  | .exit id, fr, σ => some (.exit id, fr, σ)
  | .ret, fr, σ => some (.ret, fr, σ)
  | .loop b, fr, σ => eLoop (xC P orc F qt k b) k fr σ
  | _, _, _ => none
def xF (P : Program) (orc : Orc) (qt ok : List Nat) : Nat → Fun
  | 0, _, _, _ => none
  | n + 1, f, args, σ => if ok.contains f = true then match P.funcs[f]? with
    | some fn => match fn.body with
      | some c => if args.length ≤ fn.ntmps then match xC P orc (xF P orc qt ok n) qt n c (AF.enter fn.ntmps args) σ with
          | some (.ret, fr, τ) => match resultsA P fr τ fn.results.toList with
            | some v => some (pack v, τ)
            | none => none
          | some (.normal, fr, τ) => match resultsA P fr τ fn.results.toList with
            | some v => some (pack v, τ)
            | none => none
          | _ => none
        else none
      | none => none
    | none => none
    else none

-- ------------------------------------------------------------------ sound
theorem WP.of {n0 : Nat} {c : Code} {Q : Exit → AF → AH → Prop} {fr : AF} {σ : AH} (h : ∀ E a w, E.n0 = n0 → St E fr σ a w → c.wp P (fun e a' w' => ∃ fr' σ', Q e fr' σ' ∧ St E fr' σ' a' w') a w) : WP P n0 c Q fr σ := h
theorem WP.seq {n0 : Nat} {c d : Code} {Q : Exit → AF → AH → Prop} {fr : AF} {σ : AH} (h : WP P n0 c (comb Q (fun fr σ => WP P n0 d Q fr σ)) fr σ) : WP P n0 (.seq c d) Q fr σ := by
  intro E a w hE hs
  refine wp_seq (wp_mono (h E a w hE hs) ?_)
  rintro e a' w' ⟨fr', σ', q, hs'⟩
  cases e with
  | normal => exact q E a' w' hE hs'
  | _ => exact ⟨fr', σ', q, hs'⟩
theorem WP.cond {n0 : Nat} {t : Operand} {c d : Code} {Q : Exit → AF → AH → Prop} {fr : AF} {σ : AH} {b : Bool} (ht : fr.ev t = some (.bool b)) (h1 : b = true → WP P n0 c Q fr σ) (h2 : b = false → WP P n0 d Q fr σ) : WP P n0 (.cond t c d) Q fr σ := by
  intro E a w hE hs
  obtain ⟨ρ, hr, hsince, hfr⟩ := hs
  have hb : a.eval t = .bool b := by
    have := hfr.ev ht
    generalize a.eval t = q at this ⊢
    cases this; rfl
  cases b with
  | true => exact wp_cond_true hb (h1 rfl E a w hE ⟨ρ, hr, hsince, hfr⟩)
  | false => exact wp_cond_false hb (h2 rfl E a w hE ⟨ρ, hr, hsince, hfr⟩)
/-- What becomes of an exit at a block's end. -/
def blkX (id : Nat) (Q : Exit → AF → AH → Prop) : Exit → AF → AH → Prop
  | .exit i, fr, σ => if i = id then Q .normal fr σ else Q (.exit i) fr σ
  | e, fr, σ => Q e fr σ
theorem WP.block {n0 id : Nat} {c : Code} {Q : Exit → AF → AH → Prop} {fr : AF} {σ : AH} (h : WP P n0 c (blkX id Q) fr σ) : WP P n0 (.block id c) Q fr σ := by
  intro E a w hE hs
  refine wp_block (wp_mono (h E a w hE hs) ?_)
  rintro e a' w' ⟨fr', σ', q, hs'⟩
  cases e with
  | exit i =>
    simp only [blkX] at q
    simp only [Exit.inBlock]
    split at q
    · rename_i hi; rw [if_pos hi]; exact ⟨fr', σ', q, hs'⟩
    · rename_i hi; rw [if_neg hi]; exact ⟨fr', σ', q, hs'⟩
  | _ => exact ⟨fr', σ', q, hs'⟩
theorem WP.scope {n0 : Nat} {c : Code} {Q : Exit → AF → AH → Prop} {fr : AF} {σ : AH} (h : WP P n0 c (noGo Q) fr σ) : WP P n0 (.scope c) Q fr σ := by
  intro E a w hE hs
  refine wp_scope_straight (wp_mono (h E a w hE hs) ?_)
  rintro e a' w' ⟨fr', σ', q, hs'⟩
  cases e with
  | goto l => exact q.elim
  | _ => exact ⟨fr', σ', q, hs'⟩
theorem WP.plain {orc : Orc} (horc : OrcOk P orc) {n0 id : Nat} {ops : Array Oper} {Q : Exit → AF → AH → Prop} {fr : AF} {σ : AH} (h : opsA P orc ops.toList ops.toList (fun fr σ => Q .normal fr σ) fr σ) : WP P n0 (.region id ops false) Q fr σ := by
  intro E a w hE hs
  exact wp_region_list (opsA_sound horc (fun fr σ a w hk hs => ⟨fr, σ, hk, hs⟩) _ fr σ a w h hs)
theorem WP.draw {orc : Orc} (horc : OrcOk P orc) (hmix : P.follows .mixedOrders = true) {n0 id : Nat} {ops : Array Oper} {fps : List (List Nat)} {Q : Exit → AF → AH → Prop} {fr fr' : AF} {σ σ' : AH} (hok : okS ops.toList = true)
    (h : XRun P orc ops.toList (fun i => fps.getD i []) (fun j => killsAt (masks ops.toList []) j fps 0) 0 ops.toList fr σ fr' σ') (q : Q .normal fr' σ') : WP P n0 (.region id ops true) Q fr σ := by
  intro E a w hE hs
  have := XRun.sound horc hmix hok h (id := id) hs
  have e : (⟨ops.toList⟩ : Array Oper) = ops := by cases ops; rfl
  rw [e] at this
  refine wp_mono this ?_
  rintro e a' w' ⟨rfl, hs'⟩
  exact ⟨fr', σ', q, hs'⟩
theorem xLoop_sound {n0 : Nat} {b : Code} {body : AF → AH → Option (Exit × AF × AH)} {Q : Exit → AF → AH → Prop}
    (hb : ∀ (Q : Exit → AF → AH → Prop) fr σ e fr' σ', body fr σ = some (e, fr', σ') → Q e fr' σ' → WP P n0 b Q fr σ) :
    ∀ (k : Nat) {fr : AF} {σ : AH} {e : Exit} {fr' : AF} {σ' : AH}, eLoop body k fr σ = some (e, fr', σ') → Q e fr' σ' → WL P n0 b Q fr σ
  | 0, _, _, _, _, _, h, _ => by cases h
  | k + 1, fr, σ, e, fr', σ', h, q => by
    unfold eLoop at h
    split at h
    · rename_i fr1 σ1 h1
      refine WL_round (hb _ _ _ _ _ _ h1 ?_)
      have := xLoop_sound hb k h q
      exact this.refine fun E _ => Refines.sub rfl tidy_look
    · rename_i e1 fr1 σ1 hne h1
      cases h
      refine WL_round (hb _ _ _ _ _ _ h1 ?_)
      cases e <;> first | exact q | exact (hne rfl).elim
    · cases h
theorem xC_sound {orc : Orc} (horc : OrcOk P orc) (hmix : P.follows .mixedOrders = true) {F : Fun} (hF : FunOk P F) {qt : List Nat} {n0 k : Nat} : ∀ (c : Code), (∀ ops ∈ drawsAll c, okS ops.toList = true) →
    ∀ (Q : Exit → AF → AH → Prop) (fr : AF) (σ : AH) (e : Exit) (fr' : AF) (σ' : AH), xC P orc F qt k c fr σ = some (e, fr', σ') → Q e fr' σ' → WP P n0 c Q fr σ := by
  intro c
  induction c with
  | skip => intro hd Q fr σ e fr' σ' h q; simp only [xC, Option.some.injEq, Prod.mk.injEq] at h; obtain ⟨rfl, rfl, rfl⟩ := h; exact fun E a w _ hs => wp_skip ⟨_, _, q, hs⟩
  | label l => intro hd Q fr σ e fr' σ' h q; simp only [xC, Option.some.injEq, Prod.mk.injEq] at h; obtain ⟨rfl, rfl, rfl⟩ := h; exact fun E a w _ hs => wp_label ⟨_, _, q, hs⟩
  | region i ops d =>
    intro hd Q fr σ e fr' σ' h q
    simp only [xC] at h
    split at h
    · rename_i f1 s1 h1
      simp only [Option.some.injEq, Prod.mk.injEq] at h
      obtain ⟨rfl, rfl, rfl⟩ := h
      cases d
      · simp only [Bool.false_eq_true, if_false] at h1
        exact WP.plain horc (eOps_sound hF h1 q)
      · simp only [if_true] at h1
        exact WP.draw (orcF_ok horc hF) hmix (hd ops (by simp [drawsAll])) (xOps_run h1) q
    · cases h
  | seq a b iha ihb =>
    intro hd Q fr σ e fr' σ' h q
    simp only [drawsAll, List.mem_append] at hd
    simp only [xC] at h
    refine WP.seq ?_
    split at h
    · rename_i f1 s1 h1
      exact iha (fun o ho => hd o (.inl ho)) _ _ _ _ _ _ h1 (ihb (fun o ho => hd o (.inr ho)) _ _ _ _ _ _ h q)
    · rename_i e1 f1 s1 hne h1
      cases h
      refine iha (fun o ho => hd o (.inl ho)) _ _ _ _ _ _ h1 ?_
      cases e <;> first | exact q | exact (hne rfl).elim
    · cases h
  | cond c a b iha ihb =>
    intro hd Q fr σ e fr' σ' h q
    simp only [drawsAll, List.mem_append] at hd
    simp only [xC] at h
    split at h
    · rename_i h1
      exact WP.cond h1 (fun _ => iha (fun o ho => hd o (.inl ho)) _ _ _ _ _ _ h q) (fun x => by cases x)
    · rename_i h1
      exact WP.cond h1 (fun x => by cases x) (fun _ => ihb (fun o ho => hd o (.inr ho)) _ _ _ _ _ _ h q)
    · cases h
  | block i b ih =>
    intro hd Q fr σ e fr' σ' h q
    simp only [drawsAll] at hd
    simp only [xC] at h
    refine WP.block ?_
    split at h
    · rename_i j f1 s1 h1
      refine ih hd _ _ _ _ _ _ h1 ?_
      split at h
      · rename_i hj
        cases h
        simp only [blkX, hj, if_true]
        exact q
      · rename_i hj
        cases h
        simp only [blkX, hj, if_false]
        exact q
    · rename_i e1 f1 s1 hne h1
      cases h
      refine ih hd _ _ _ _ _ _ h1 ?_
      cases e <;> first | exact q | exact (hne _ rfl).elim
    · cases h
  | scope b ih =>
    intro hd Q fr σ e fr' σ' h q
    simp only [drawsAll] at hd
    simp only [xC] at h
    refine WP.scope ?_
    split at h
    · cases h
    · rename_i hne
      refine ih hd _ _ _ _ _ _ h ?_
      cases e <;> first | exact q | exact (hne _ _ _ h).elim
  | exit i => intro hd Q fr σ e fr' σ' h q; simp only [xC, Option.some.injEq, Prod.mk.injEq] at h; obtain ⟨rfl, rfl, rfl⟩ := h; exact fun E a w _ hs => wp_exit ⟨_, _, q, hs⟩
  | ret => intro hd Q fr σ e fr' σ' h q; simp only [xC, Option.some.injEq, Prod.mk.injEq] at h; obtain ⟨rfl, rfl, rfl⟩ := h; exact fun E a w _ hs => wp_ret ⟨_, _, q, hs⟩
  | loop b ih =>
    intro hd Q fr σ e fr' σ' h q
    simp only [drawsAll] at hd
    simp only [xC] at h
    exact WL.loop (xLoop_sound (ih hd) k h q)
  | _ => intro hd Q fr σ e fr' σ' h q; simp [xC] at h
def okFunsX (P : Program) (ok : List Nat) : Bool := ok.all fun f => match P.funcs[f]? with
  | some fn => match fn.body with
    | some c => (drawsAll c).all fun ops => okS ops.toList
    | none => true
  | none => true
theorem okFunsX_draws {ok : List Nat} (hok : okFunsX P ok = true) {f : Nat} (hf : ok.contains f = true) {fn : Func} (hfn : P.funcs[f]? = some fn) {c : Code} (hc : fn.body = some c) : ∀ ops ∈ drawsAll c, okS ops.toList = true := by
  intro ops ho
  unfold okFunsX at hok
  rw [List.all_eq_true] at hok
  have h1 := hok f (by simpa using hf)
  simp only [hfn, hc] at h1
  rw [List.all_eq_true] at h1
  exact h1 ops ho
theorem xF_sound {orc : Orc} (horc : OrcOk P orc) (hmix : P.follows .mixedOrders = true) {qt ok : List Nat} (hok : okFunsX P ok = true) : ∀ n, FunOk P (xF P orc qt ok n)
  | 0, _, _, _, _, _, h => by cases h
  | n + 1, f, args, σ, v, τ, h => by
    unfold xF at h
    split at h
    · rename_i hf
      split at h
      · rename_i fn hfn
        split at h
        · rename_i c hc
          split at h
          · rename_i hl
            have hd := okFunsX_draws hok hf hfn hc
            refine SC_body hfn hc hl ?_
            split at h
            · rename_i fr τ' h1
              split at h
              · rename_i u hu
                cases h
                refine xC_sound horc hmix (xF_sound horc hmix hok n) c hd _ _ _ _ _ _ h1 ?_
                simp [retQ, hu, retR]
              · cases h
            · rename_i fr τ' h1
              split at h
              · rename_i u hu
                cases h
                refine xC_sound horc hmix (xF_sound horc hmix hok n) c hd _ _ _ _ _ _ h1 ?_
                simp [retQ, hu, retR]
              · cases h
            · cases h
          · cases h
        · cases h
      · cases h
    · cases h
theorem runX_true (hmix : P.follows .mixedOrders = true) {qt ok : List Nat} (hok : okFunsX P ok = true) {n f : Nat} {args : List AV} {σ : AH} (h : answers (.bool true) (xF P (fun _ => none) qt ok n f args σ) = true) : SC P f args σ (fun u _ => u = .bool true) := by
  cases hr : xF P (fun _ => none) qt ok n f args σ with
  | none => rw [hr] at h; simp [answers] at h
  | some r =>
    obtain ⟨v, τ⟩ := r
    refine (xF_sound (orc_none P) hmix hok n f args σ v τ hr).mono ?_
    rintro u τ' ⟨rfl, rfl⟩
    rw [hr] at h
    unfold answers at h
    split at h
    · rename_i b τ'' e
      cases e
      simpa using h
    · cases h
end Go.Proofs.Yteneafgmcmgahaa.V
