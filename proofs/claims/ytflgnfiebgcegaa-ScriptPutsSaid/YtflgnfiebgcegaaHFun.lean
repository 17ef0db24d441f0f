/- A function's body on a part of memory, and its calls. -/
import Derived.Test.YtflgnfiebgcegaaHRun
import Derived.Laws.Sem
set_option linter.unusedSimpArgs false
set_option linter.unusedVariables false
namespace Go.Proofs.Ytflgnfiebgcegaa
open Go

/-- What is laid for a function: for a region that draws, what stands ahead of what, and an order; for a loop, the slots that live at its head. -/
structure Ann where
  b : Nat → Array Nat
  ord : Nat → List Nat
  keep : Nat → List Nat
def headId : Code → Nat
  | .region id _ _ => id
  | .seq x _ => headId x
  | .block _ c => headId c
  | .loop c => headId c
  | .scope c => headId c
  | _ => 0
abbrev QH := Exit → Env → PH → Prop
abbrev thenH (next : Env → PH → Prop) (Q : QH) : QH
  | .normal, ρ, h => next ρ h
  | e, ρ, h => Q e ρ h
abbrev inBlockH (id : Nat) (Q : QH) : QH
  | .exit id', ρ, h => if id' = id then Q .normal ρ h else Q (.exit id') ρ h
  | e, ρ, h => Q e ρ h
abbrev noGotoH (Q : QH) : QH
  | .goto _, _, _ => False
  | e, ρ, h => Q e ρ h
def condV (v : Value) (A B : Prop) : Prop := match v with
  | .bool true => A
  | .bool false => B
  | _ => False
/-- A loop: what holds of the slots that live at each round's head, and what falls from round to round. -/
def LoopL (keep : List Nat) (step : (List Value → PH → Prop) → Env → PH → Prop) (vs : List Value) (h : PH) : Prop :=
  ∃ (I : List Value → PH → Prop) (μ : List Value → PH → Nat), I vs h ∧ ∀ ρ h, I (keep.map ρ) h → step (fun vs' h' => I vs' h' ∧ μ vs' h' < μ (keep.map ρ) h) ρ h
def codeH (P : Program) (ann : Ann) : Code → QH → Env → PH → Prop
  | .skip, Q, ρ, h => Q .normal ρ h
  | .region _ ops false, Q, ρ, h => opsH P ops (Q .normal) ops.toList ρ h
  | .region id ops true, Q, ρ, h => opsD P ops (ann.b id) (Q .normal) [] (ann.ord id) ρ h
  | .seq x y, Q, ρ, h => codeH P ann x (thenH (codeH P ann y Q) Q) ρ h
  | .cond c x y, Q, ρ, h => condV (ev ρ c) (codeH P ann x Q ρ h) (codeH P ann y Q ρ h)
  | .block id c, Q, ρ, h => codeH P ann c (inBlockH id Q) ρ h
  | .loop c, Q, ρ, h => LoopL (ann.keep (headId c)) (fun next ρ h => codeH P ann c (thenH (fun ρ' h' => next ((ann.keep (headId c)).map ρ') h') Q) ρ h) ((ann.keep (headId c)).map ρ) h
  | .exit id, Q, ρ, h => Q (.exit id) ρ h
  | .ret, Q, ρ, h => Q .ret ρ h
  | .label _, Q, ρ, h => Q .normal ρ h
  | .scope c, Q, ρ, h => codeH P ann c (noGotoH Q) ρ h
  | _, _, _, _ => False
def codeB (P : Program) (ann : Ann) (n : Nat) : Code → Bool
  | .region _ ops false => ops.all (dstB n)
  | .region id ops true => ops.all (dstB n) && drawOk P ops (ann.b id) (ann.ord id)
  | .seq x y => codeB P ann n x && codeB P ann n y
  | .cond _ x y => codeB P ann n x && codeB P ann n y
  | .block _ c => codeB P ann n c
  | .loop c => codeB P ann n c
  | .scope c => codeB P ann n c
  | _ => true

theorem wp_loop_rel {P : Program} {Q : Exit → Act → World → Prop} {c : Code} (I : Nat → Act → World → Prop) (round : ∀ n a w, I n a w → c.wp P (Exit.then (fun a' w' => ∃ m, m < n ∧ I m a' w') Q) a w) :
    ∀ {n : Nat} {a : Act} {w : World}, I n a w → (Code.loop c).wp P Q a w := by
  intro n a w h0
  let J : Act → World → Prop := fun a w => ∃ n, I n a w
  have least : ∀ a w, J a w → ∃ n, I n a w ∧ ∀ m, I m a w → n ≤ m := by
    intro a w ⟨n, hn⟩
    induction n using Nat.strongRecOn with
    | _ n ih =>
      by_cases hx : ∃ m, m < n ∧ I m a w
      · obtain ⟨m, hlt, hm⟩ := hx; exact ih m hlt hm
      · exact ⟨n, hn, fun m hm => by
          rcases Nat.lt_or_ge m n with h1 | h1
          · exact absurd ⟨m, h1, hm⟩ hx
          · exact h1⟩
  let μ : Act → World → Nat := fun a w => @dite Nat (J a w) (Classical.propDecidable _) (fun h => Classical.choose (least a w h)) (fun _ => 0)
  refine wp_loop J μ ⟨n, h0⟩ fun a w hJ => ?_
  have hμ : μ a w = Classical.choose (least a w hJ) := dif_pos hJ
  have hsp := Classical.choose_spec (least a w hJ)
  refine wp_mono (round _ a w hsp.1) fun e a' w' he => ?_
  cases e with
  | normal =>
    obtain ⟨m, hlt, hm⟩ := he
    have hJ' : J a' w' := ⟨m, hm⟩
    have hμ' : μ a' w' = Classical.choose (least a' w' hJ') := dif_pos hJ'
    refine ⟨hJ', ?_⟩
    rw [hμ, hμ']
    exact Nat.lt_of_le_of_lt ((Classical.choose_spec (least a' w' hJ')).2 m hm) hlt
  | _ => exact he

theorem codeH.sound {P : Program} {ann : Ann} {n : Nat} (hmix : P.follows .mixedOrders = true) {h0 : PH} {w0 : World} : ∀ (c : Code) {Q : QH} {ρ : Env} {h : PH}, codeB P ann n c = true → codeH P ann c Q ρ h →
    ∀ {a : Act} {w : World}, Match n ρ a → Sub h w → Fr h0 w0 h w → c.wp P (QW n Q h0 w0) a w := by
  intro c
  induction c with
  | skip => intro Q ρ h _ H a w hm hs hf; exact wp_skip ⟨ρ, h, H, hm, hs, hf⟩
  | region id ops d =>
    intro Q ρ h hb H a w hm hs hf
    cases d with
    | false =>
      refine wp_region ?_
      rw [List.range_eq_range']
      exact ops_wp (fun o ho => Array.all_eq_true_iff_forall_mem.1 hb o ho) ops.size 0 ρ h a w (by omega) (by simpa [codeH] using H) hm hs hf
    | true =>
      simp only [codeB, Bool.and_eq_true] at hb
      exact draw_wp hmix (fun o ho => Array.all_eq_true_iff_forall_mem.1 hb.1 o ho) hb.2 H hm hs hf
  | seq x y ihx ihy =>
    intro Q ρ h hb H a w hm hs hf
    simp only [codeB, Bool.and_eq_true] at hb
    refine wp_seq (wp_mono (ihx hb.1 H hm hs hf) fun e a' w' ⟨ρ', h', hq, hm', hs', hf'⟩ => ?_)
    cases e with
    | normal => exact ihy hb.2 hq hm' hs' hf'
    | _ => exact ⟨ρ', h', hq, hm', hs', hf'⟩
  | cond c x y ihx ihy =>
    intro Q ρ h hb H a w hm hs hf
    simp only [codeB, Bool.and_eq_true] at hb
    have he : a.eval c = ev ρ c := by rw [hm.ev]
    unfold codeH condV at H
    split at H
    · rename_i hv; exact wp_cond_true (he.trans hv) (ihx hb.1 H hm hs hf)
    · rename_i hv; exact wp_cond_false (he.trans hv) (ihy hb.2 H hm hs hf)
    · exact H.elim
  | block id c ih =>
    intro Q ρ h hb H a w hm hs hf
    refine wp_block (wp_mono (ih hb H hm hs hf) fun e a' w' ⟨ρ', h', hq, hm', hs', hf'⟩ => ?_)
    cases e with
    | exit id' =>
      simp only [Exit.inBlock, inBlockH] at hq ⊢
      split
      · rename_i e; rw [if_pos e] at hq; exact ⟨ρ', h', hq, hm', hs', hf'⟩
      · rename_i e; rw [if_neg e] at hq; exact ⟨ρ', h', hq, hm', hs', hf'⟩
    | _ => exact ⟨ρ', h', hq, hm', hs', hf'⟩
  | loop c ih =>
    intro Q ρ h hb H a w hm hs hf
    obtain ⟨I, μ, hI, hround⟩ := H
    generalize ann.keep (headId c) = keep at *
    refine wp_loop_rel (fun m a w => ∃ ρ h, I (keep.map ρ) h ∧ μ (keep.map ρ) h = m ∧ Match n ρ a ∧ Sub h w ∧ Fr h0 w0 h w) (fun m a w ⟨ρ, h, hI, hμ, hm, hs, hf⟩ => ?_) (n := μ (keep.map ρ) h) ⟨ρ, h, hI, rfl, hm, hs, hf⟩
    refine wp_mono (ih hb (hround ρ h hI) hm hs hf) fun e a' w' ⟨ρ', h', hq, hm', hs', hf'⟩ => ?_
    cases e with
    | normal => exact ⟨_, hμ ▸ hq.2, ρ', h', hq.1, rfl, hm', hs', hf'⟩
    | _ => exact ⟨ρ', h', hq, hm', hs', hf'⟩
  | exit id => intro Q ρ h _ H a w hm hs hf; exact wp_exit ⟨ρ, h, H, hm, hs, hf⟩
  | scope c ih =>
    intro Q ρ h hb H a w hm hs hf
    refine wp_scope_straight (wp_mono (ih hb H hm hs hf) fun e a' w' ⟨ρ', h', hq, hm', hs', hf'⟩ => ?_)
    cases e with
    | goto l => exact hq
    | _ => exact ⟨ρ', h', hq, hm', hs', hf'⟩
  | label l => intro Q ρ h _ H a w hm hs hf; exact wp_label ⟨ρ, h, H, hm, hs, hf⟩
  | ret => intro Q ρ h _ H a w hm hs hf; exact wp_ret ⟨ρ, h, H, hm, hs, hf⟩
  | rangeFunc f ps x y ih1 ih2 => intro Q ρ h _ H; exact H.elim
  | goto l => intro Q ρ h _ H; exact H.elim
  | refuse s => intro Q ρ h _ H; exact H.elim

/-! ### Results -/
def resL (P : Program) (ρ : Env) (h : PH) : List ResultVar → (List Value → Prop) → Prop
  | [], k => k []
  | .tmp t :: rs, k => resL P ρ h rs fun vs => k (ρ t :: vs)
  | .cell a t :: rs, k => popO (SemE P h (Instr.loadAt t (ρ a))) fun v => resL P ρ h rs fun vs => k (v :: vs)
def oneOf : List Value → Value
  | [v] => v
  | vs => .tuple vs.toArray
def resH (P : Program) (fn : Func) (ρ : Env) (h : PH) (R : Value → PH → Prop) : Prop := resL P ρ h fn.results.toList fun vs => R (oneOf vs) h
theorem SemE.run {P : Program} {α : Type} {s : Sem α} : ∀ {a : α} {h : PH}, SemE P h s = some a → ∀ {w : World}, Sub h w → s.run P w = .ok a w := by
  induction s with
  | pure a => intro b h hb w hs; simp only [SemE, Option.some.injEq] at hb; subst hb; rfl
  | load m a k ih => intro b h hb w hs; obtain ⟨v, hv, hb⟩ := Option.bind_eq_some_iff.1 hb; simp only [Sem.run, hs.cell hv]; exact ih v hb hs
  | shape r k ih => intro b h hb w hs; obtain ⟨v, hv, hb⟩ := Option.bind_eq_some_iff.1 hb; simp only [Sem.run, hs.shape hv]; exact ih v hb hs
  | frozen a k ih => intro b h hb w hs; obtain ⟨v, hv, hb⟩ := Option.bind_eq_some_iff.1 hb; simp only [Sem.run, hs.frozen hv]; exact ih _ hb hs
  | program k ih => intro b h hb w hs; exact ih P hb hs
  | mark m k ih => intro b h hb w hs; exact ih hb hs
  | getObj r k ih =>
    intro b h hb w hs
    simp only [SemE] at hb
    cases hx : h r with
    | none => rw [hx] at hb; cases hb
    | some o =>
      rw [hx] at hb
      simp only [Sem.run, hs _ _ hx]
      cases o <;> first | cases hb | exact ih _ hb hs
  | _ => intro b h hb; cases hb
def resF (tmps : Array Value) : ResultVar → Sem Value
  | .tmp t => pure (tmps.getD t undef)
  | .cell x t => do loadVar t (← asAddr (tmps.getD x undef))
theorem resL.run {P : Program} {ρ : Env} {h : PH} {n : Nat} {a : Act} {w : World} (hm : Match n ρ a) (hs : Sub h w) : ∀ (l : List ResultVar) {k : List Value → Prop}, resL P ρ h l k →
    ∃ vs, k vs ∧ (l.mapM (m := Sem) (resF a.tmps)).run P w = .ok vs w := by
  intro l
  induction l with
  | nil => intro k H; exact ⟨[], H, rfl⟩
  | cons r rs ih =>
    intro k H
    cases r with
    | tmp t =>
      obtain ⟨vs, hk, hr⟩ := ih H
      refine ⟨_, hk, ?_⟩
      have h1 : (resF a.tmps (.tmp t)).run P w = .ok (ρ t) w := by
        show (pure (a.tmps.getD t undef) : Sem Value).run P w = _
        rw [hm.slot]; rfl
      rw [List.mapM_cons]
      simp only [Sem.run_bind, Sem.run_pure, Result.andThen_ok, h1, hr]
    | cell x t =>
      obtain ⟨v, hv, H'⟩ := popO_iff.1 H
      obtain ⟨vs, hk, hr⟩ := ih H'
      refine ⟨_, hk, ?_⟩
      rw [List.mapM_cons]
      have h1 : (resF a.tmps (.cell x t)).run P w = .ok v w := by
        have h2 := SemE.run hv hs
        show (do loadVar t (← asAddr (a.tmps.getD x undef)) : Sem Value).run P w = _
        rw [hm.slot]
        unfold Instr.loadAt Instr.sureAddr at h2
        generalize ρ x = y at *
        cases y with
        | pointer p => cases p with
          | none => exact absurd hv (by intro hc; cases hc)
          | some p => exact h2
        | _ => exact absurd hv (by intro hc; cases hc)
      simp only [Sem.run_bind, Sem.run_pure, Result.andThen_ok, h1, hr]

/-- How a call is shown: by its body. -/
theorem callsH_of {P : Program} {f : FuncId} {fn : Func} {c : Code} (ann : Ann) (hmix : P.follows .mixedOrders = true) (hf : P.funcs[f]? = some fn) (hb : fn.body = some c) (hen : enters P f = true) (hB : codeB P ann fn.ntmps c = true)
    {args : Array Value} (hargs : args.size ≤ fn.ntmps) {h : PH} {R : Value → PH → Prop}
    (H : codeH P ann c (fun e ρ h => match e with
      | .normal | .ret => resH P fn ρ h R
      | _ => False) (fun t => args.getD t undef) h) : CallsH P f args h R := by
  refine .inl ⟨hen, fun w hs => calls_of_wp hf hb ?_⟩
  have hm : Match fn.ntmps (fun t => args.getD t undef) { tmps := args ++ Array.replicate (fn.ntmps - args.size) undef, defers := [] } := by
    refine ⟨rfl, by simp; omega, fun t => ?_⟩
    simp only [Array.getD_eq_getD_getElem?, Array.getElem?_append, Array.getElem?_replicate]
    by_cases hlt : t < args.size
    · simp [hlt]
    · rw [if_neg hlt]
      have : args[t]? = none := Array.getElem?_eq_none (by omega)
      rw [this]
      split <;> rfl
  refine wp_mono (codeH.sound hmix c hB H hm hs (Fr.refl _ _)) fun e a' w' ⟨ρ', h', hq, hm', hs', hf'⟩ => ?_
  have fin : resH P fn ρ' h' R → a'.defers = [] ∧ ∃ v, (results fn a'.tmps).run P w' = .ok v w' ∧ ∃ v1 h1, Ending.returned v = .returned v1 ∧ R v1 h1 ∧ Sub h1 w' ∧ Fr h w h1 w' := by
    intro hr
    obtain ⟨vs, hk, hrun⟩ := resL.run hm' hs' fn.results.toList hr
    refine ⟨hm'.defers, oneOf vs, ?_, _, h', rfl, hk, hs', hf'⟩
    show ((do let vs ← fn.results.mapM (resF a'.tmps); pure (if h : vs.size = 1 then vs[0] else .tuple vs) : Sem Value)).run P w' = _
    rw [Array.mapM_eq_mapM_toList]
    simp only [Sem.run_bind, Sem.run_map, Result.andThen_ok, hrun]
    simp only [Sem.run_pure]
    congr 1
    cases vs with
    | nil => rfl
    | cons v vs => cases vs with
      | nil => rfl
      | cons u us => simp [oneOf]
  cases e with
  | normal => exact fin hq
  | ret => exact fin hq
  | _ => exact hq.elim

/-! ### Words that the printed functions use -/
def bodyOf (fn : Func) : Code := fn.body.getD .skip
def endH (P : Program) (fn : Func) (R : Value → PH → Prop) : QH := fun e ρ h => match e with
  | .normal | .ret => resH P fn ρ h R
  | _ => False
def bindH (h : PH) (k : PH → Prop) : Prop := k h
def yV (v : Value) : Option Bool := match v with
  | .bool b => some b
  | _ => none
def nilS (v : Value) : Sem Value := match v with
  | .pointer none | .nilIface | .nilFunc => .halt (.stuck "nil")
  | .func (.method _) _ _ => .halt (.stuck "method")
  | x => pure x
def binS (op : BinOp) (t : TypeId) (x y : Operand) (a b : Value) : Sem Value := do eqGuard op t x y a b; binOp op t a b
def storeS (t : TypeId) (a x : Value) : Sem Value := do Instr.storeAt t a x; pure undef
def mapUpdS (t : TypeId) (m k x : Value) : Sem Value := do Instr.mapUpdate t m k x; pure undef
def entryStoreS (t : TypeId) (m s x : Value) : Sem Value := do Instr.entryStore t m s x; pure undef
def callC (P : Program) (f : Value) (args : Array Value) (h : PH) (kv : Value → PH → Prop) : Prop := match f with
  | .func (.func f) first captured => CallsH P f (first ++ args ++ captured) h kv
  | .func fn first captured => SemH P (invoke (.fn fn captured) (first ++ args)) h fun n h' => NextH P n h' kv
  | _ => False
def callI (P : Program) (recv : Value) (name : String) (args : Array Value) (h : PH) (kv : Value → PH → Prop) : Prop :=
  SemH P (callMethod recv name args) h fun n h' => NextH P n h' kv
def zcells (P : Program) (t : TypeId) : Array Value := match P.info? t with
  | some i => match i.zero with
    | some v => v.cells
    | none => #[]
  | none => #[]
/-- The same, by rounds of one step: for the kernel, whose unfolding it keeps small. -/
def codeS (P : Program) (ann : Ann) (ih : Code → QH → Env → PH → Prop) (c : Code) (Q : QH) (ρ : Env) (h : PH) : Prop := match c with
  | .skip => Q .normal ρ h
  | .region _ ops false => opsH P ops (Q .normal) ops.toList ρ h
  | .region id ops true => opsD P ops (ann.b id) (Q .normal) [] (ann.ord id) ρ h
  | .seq x y => ih x (thenH (ih y Q) Q) ρ h
  | .cond c x y => condV (ev ρ c) (ih x Q ρ h) (ih y Q ρ h)
  | .block id c => ih c (inBlockH id Q) ρ h
  | .loop c => LoopL (ann.keep (headId c)) (fun next ρ h => ih c (thenH (fun ρ' h' => next ((ann.keep (headId c)).map ρ') h') Q) ρ h) ((ann.keep (headId c)).map ρ) h
  | .exit id => Q (.exit id) ρ h
  | .ret => Q .ret ρ h
  | .label _ => Q .normal ρ h
  | .scope c => ih c (noGotoH Q) ρ h
  | _ => False
noncomputable def codeF (P : Program) (ann : Ann) (n : Nat) : Code → QH → Env → PH → Prop := Nat.rec (fun _ _ _ _ => False) (fun _ ih => codeS P ann ih) n
def depthC : Code → Nat
  | .seq x y => max (depthC x) (depthC y) + 1
  | .cond _ x y => max (depthC x) (depthC y) + 1
  | .block _ c => depthC c + 1
  | .loop c => depthC c + 1
  | .scope c => depthC c + 1
  | _ => 0
theorem codeF_eq {P : Program} {ann : Ann} : ∀ (c : Code) (n : Nat), depthC c < n → codeF P ann n c = codeH P ann c := by
  intro c
  induction c with
  | skip => intro n hn; obtain ⟨m, rfl⟩ : ∃ m, n = m + 1 := ⟨n - 1, by omega⟩; rfl
  | region id ops d => intro n hn; obtain ⟨m, rfl⟩ : ∃ m, n = m + 1 := ⟨n - 1, by omega⟩; cases d <;> rfl
  | seq x y ihx ihy =>
    intro n hn
    obtain ⟨m, rfl⟩ : ∃ m, n = m + 1 := ⟨n - 1, by omega⟩
    simp only [depthC] at hn
    funext Q ρ h
    show codeF P ann m x (thenH (codeF P ann m y Q) Q) ρ h = codeH P ann x (thenH (codeH P ann y Q) Q) ρ h
    rw [ihx m (by omega), ihy m (by omega)]
  | cond c x y ihx ihy =>
    intro n hn
    obtain ⟨m, rfl⟩ : ∃ m, n = m + 1 := ⟨n - 1, by omega⟩
    simp only [depthC] at hn
    funext Q ρ h
    show condV (ev ρ c) (codeF P ann m x Q ρ h) (codeF P ann m y Q ρ h) = condV (ev ρ c) (codeH P ann x Q ρ h) (codeH P ann y Q ρ h)
    rw [ihx m (by omega), ihy m (by omega)]
  | block id c ih =>
    intro n hn
    obtain ⟨m, rfl⟩ : ∃ m, n = m + 1 := ⟨n - 1, by omega⟩
    simp only [depthC] at hn
    funext Q ρ h
    show codeF P ann m c (inBlockH id Q) ρ h = codeH P ann c (inBlockH id Q) ρ h
    rw [ih m (by omega)]
  | loop c ih =>
    intro n hn
    obtain ⟨m, rfl⟩ : ∃ m, n = m + 1 := ⟨n - 1, by omega⟩
    simp only [depthC] at hn
    funext Q ρ h
    show LoopL (ann.keep (headId c)) (fun next ρ h => codeF P ann m c (thenH (fun ρ' h' => next ((ann.keep (headId c)).map ρ') h') Q) ρ h) ((ann.keep (headId c)).map ρ) h = LoopL (ann.keep (headId c)) (fun next ρ h => codeH P ann c (thenH (fun ρ' h' => next ((ann.keep (headId c)).map ρ') h') Q) ρ h) ((ann.keep (headId c)).map ρ) h
    rw [ih m (by omega)]
  | scope c ih =>
    intro n hn
    obtain ⟨m, rfl⟩ : ∃ m, n = m + 1 := ⟨n - 1, by omega⟩
    simp only [depthC] at hn
    funext Q ρ h
    show codeF P ann m c (noGotoH Q) ρ h = codeH P ann c (noGotoH Q) ρ h
    rw [ih m (by omega)]
  | _ => intro n hn; obtain ⟨m, rfl⟩ : ∃ m, n = m + 1 := ⟨n - 1, by omega⟩; rfl
theorem callsF_by {P : Program} {f : FuncId} {fn : Func} (ann : Ann) (n : Nat) (hmix : P.follows .mixedOrders = true) (hf : P.funcs[f]? = some fn) (hen : enters P f = true) (hb : fn.body.isSome = true) (hd : decide (depthC (bodyOf fn) < n) = true) (hB : codeB P ann fn.ntmps (bodyOf fn) = true)
    {args : Array Value} (hargs : args.size ≤ fn.ntmps) {h : PH} {R : Value → PH → Prop} {X : Prop}
    (he : codeF P ann n (bodyOf fn) (endH P fn R) (fun t => args.getD t undef) h = X) (H : X) : CallsH P f args h R := by
  obtain ⟨c, hc⟩ := Option.isSome_iff_exists.1 hb
  have e : bodyOf fn = c := by unfold bodyOf; rw [hc]; rfl
  rw [codeF_eq _ _ (by simpa using hd)] at he
  rw [e] at hB he
  rw [← he] at H
  exact callsH_of ann hmix hf hc hen hB hargs H
theorem callsH_by {P : Program} {f : FuncId} {fn : Func} (ann : Ann) (hmix : P.follows .mixedOrders = true) (hf : P.funcs[f]? = some fn) (hen : enters P f = true) (hb : fn.body.isSome = true) (hB : codeB P ann fn.ntmps (bodyOf fn) = true)
    {args : Array Value} (hargs : args.size ≤ fn.ntmps) {h : PH} {R : Value → PH → Prop} {X : Prop}
    (he : codeH P ann (bodyOf fn) (endH P fn R) (fun t => args.getD t undef) h = X) (H : X) : CallsH P f args h R := by
  obtain ⟨c, hc⟩ := Option.isSome_iff_exists.1 hb
  have e : bodyOf fn = c := by unfold bodyOf; rw [hc]; rfl
  rw [e] at hB he
  rw [← he] at H
  exact callsH_of ann hmix hf hc hen hB hargs H
end Go.Proofs.Ytflgnfiebgcegaa
