/- A function's body on a part of memory, and its calls. -/
import Derived.Test.YtllopddcpkhfjaaDoorHRun
import Derived.Laws.Sem
set_option linter.unusedSimpArgs false
set_option linter.unusedVariables false
namespace Go.Proofs.YtllopddcpkhfjaaDoor
open Go

/-- What is laid for a function: for a region that draws, what stands ahead of what, and an order; for a loop, the slots that live at its head. -/
structure Ann where
  b : Nat → Array Nat
  ord : Nat → List Nat
  keep : Nat → List Nat
  n : Nat := 0
def headId : Code → Nat
  | .region id _ _ => id
  | .seq x _ => headId x
  | .block _ c => headId c
  | .loop c => headId c
  | .scope c => headId c
  | _ => 0
abbrev QH := Exit → Env → PH → Prop
abbrev thenH (next : Env → PH → Prop) (Q : QH) : QH
  | .normal, ρ, h => next ρ h
  | e, ρ, h => Q e ρ h
abbrev inBlockH (id : Nat) (Q : QH) : QH
  | .exit id', ρ, h => if id' = id then Q .normal ρ h else Q (.exit id') ρ h
  | e, ρ, h => Q e ρ h
abbrev noGotoH (Q : QH) : QH
  | .goto _, _, _ => False
  | e, ρ, h => Q e ρ h
def condV (v : Value) (A B : Prop) : Prop := match v with
  | .bool true => A
  | .bool false => B
  | _ => False
/-- A loop: what holds of the slots that live at each round's head, and what falls from round to round. -/
def LoopL (keep : List Nat) (step : (List Value → PH → Prop) → Env → PH → Prop) (vs : List Value) (h : PH) : Prop :=
  ∃ (I : List Value → PH → Prop) (μ : List Value → PH → Nat), I vs h ∧ ∀ ρ h, I (keep.map ρ) h → step (fun vs' h' => I vs' h' ∧ μ vs' h' < μ (keep.map ρ) h) ρ h
/-- The blocks that a code leaves. -/
def exitIds : Code → List Nat
  | .seq x y => exitIds x ++ exitIds y
  | .cond _ x y => exitIds x ++ exitIds y
  | .block _ c => exitIds c
  | .loop c => exitIds c
  | .scope c => exitIds c
  | .exit id => [id]
  | _ => []
/-- Where a range over a function goes on, behind the call. -/
def jumpH (kn kr : PH → Prop) (ke : List (Nat × (PH → Prop))) (h : PH) : Option Code → Prop
  | none => kn h
  | some .ret => kr h
  | some (.exit id) => ∃ p ∈ ke, p.1 = id ∧ p.2 h
  | _ => False
/-- A range over a function: the loop's record is laid; the one call, with yield. -/
def rangeH (P : Program) (n : Nat) (g : Value) (ps : Array Tmp) (assign body : Code) (kn kr : PH → Prop) (ke : List (Nat × (PH → Prop))) (vals : List (Nat × Value)) (h : PH) : Prop := match g with
  | .func (.func gf) first captured => enters P gf = true ∧ ∀ (fn : FuncId) (tmps : Array Value) (l D : Nat), (∀ p ∈ vals, tmps.getD p.1 undef = p.2) → tmps.size = n → h l = none →
      CallsH P gf (first ++ #[.func (.yield l) #[] #[]] ++ captured) (h.set l (.loop { state := .ready, pending := none, fn, tmps, params := ps, assign, body, defers := D }))
        fun _ h' => SemH P (Instr.endLoop l) h' fun jump h2 => jumpH kn kr ke h2 jump
  | _ => False
def codeH (P : Program) (ann : Ann) : Code → QH → Env → PH → Prop
  | .skip, Q, ρ, h => Q .normal ρ h
  | .region _ ops false, Q, ρ, h => opsH P ops (Q .normal) ops.toList ρ h
  | .region id ops true, Q, ρ, h => opsD P ops (ann.b id) (Q .normal) [] (ann.ord id) ρ h
  | .seq x y, Q, ρ, h => codeH P ann x (thenH (codeH P ann y Q) Q) ρ h
  | .cond c x y, Q, ρ, h => condV (ev ρ c) (codeH P ann x Q ρ h) (codeH P ann y Q ρ h)
  | .block id c, Q, ρ, h => codeH P ann c (inBlockH id Q) ρ h
  | .loop c, Q, ρ, h => LoopL (ann.keep (headId c)) (fun next ρ h => codeH P ann c (thenH (fun ρ' h' => next ((ann.keep (headId c)).map ρ') h') Q) ρ h) ((ann.keep (headId c)).map ρ) h
  | .exit id, Q, ρ, h => Q (.exit id) ρ h
  | .ret, Q, ρ, h => Q .ret ρ h
  | .label _, Q, ρ, h => Q .normal ρ h
  | .scope c, Q, ρ, h => codeH P ann c (noGotoH Q) ρ h
  | .rangeFunc g ps assign body, Q, ρ, h => rangeH P ann.n (ev ρ g) ps assign body (Q .normal ρ) (Q .ret ρ) ((exitIds body).map fun id => (id, Q (.exit id) ρ)) ((ann.keep (headId body)).map fun t => (t, ρ t)) h
  | _, _, _, _ => False
/-- No range over a function in it. -/
def noRange : Code → Bool
  | .seq x y => noRange x && noRange y
  | .cond _ x y => noRange x && noRange y
  | .block _ c => noRange c
  | .loop c => noRange c
  | .scope c => noRange c
  | .rangeFunc .. => false
  | _ => true
def codeB (P : Program) (ann : Ann) (n : Nat) : Code → Bool
  | .region _ ops false => ops.all (dstB n)
  | .region id ops true => ops.all (dstB n) && drawOk P ops (ann.b id) (ann.ord id)
  | .seq x y => codeB P ann n x && codeB P ann n y
  | .cond _ x y => codeB P ann n x && codeB P ann n y
  | .block _ c => codeB P ann n c
  | .loop c => codeB P ann n c
  | .scope c => codeB P ann n c
  | .rangeFunc _ ps _ _ => ann.n == n
  | _ => true

theorem SemE.run {P : Program} {α : Type} {s : Sem α} : ∀ {a : α} {h : PH}, SemE P h s = some a → ∀ {w : World}, Sub h w → s.run P w = .ok a w := by
  induction s with
  | pure a => intro b h hb w hs; simp only [SemE, Option.some.injEq] at hb; subst hb; rfl
  | load m a k ih => intro b h hb w hs; obtain ⟨v, hv, hb⟩ := Option.bind_eq_some_iff.1 hb; simp only [Sem.run, hs.cell hv]; exact ih v hb hs
  | shape r k ih => intro b h hb w hs; obtain ⟨v, hv, hb⟩ := Option.bind_eq_some_iff.1 hb; simp only [Sem.run, hs.shape hv]; exact ih v hb hs
  | frozen a k ih => intro b h hb w hs; obtain ⟨v, hv, hb⟩ := Option.bind_eq_some_iff.1 hb; simp only [Sem.run, hs.frozen hv]; exact ih _ hb hs
  | program k ih => intro b h hb w hs; exact ih P hb hs
  | mark m k ih => intro b h hb w hs; exact ih hb hs
  | getObj r k ih =>
    intro b h hb w hs
    simp only [SemE] at hb
    cases hx : h r with
    | none => rw [hx] at hb; cases hb
    | some o =>
      rw [hx] at hb
      simp only [Sem.run, hs _ _ hx]
      cases o <;> first | cases hb | exact ih _ hb hs
  | _ => intro b h hb; cases hb
theorem wp_loop_rel {r : Option Nat} {N : Nat} {P : Program} {Q : Exit → Act → World → Prop} {c : Code} (I : Nat → Act → World → Prop) (round : ∀ n a w, I n a w → c.wpIn (wideR r) N P (Exit.then (fun a' w' => ∃ m, m < n ∧ I m a' w') Q) a w) :
    ∀ {n : Nat} {a : Act} {w : World}, I n a w → (Code.loop c).wpIn (wideR r) N P Q a w := by
  intro n a w h0
  let J : Act → World → Prop := fun a w => ∃ n, I n a w
  have least : ∀ a w, J a w → ∃ n, I n a w ∧ ∀ m, I m a w → n ≤ m := by
    intro a w ⟨n, hn⟩
    induction n using Nat.strongRecOn with
    | _ n ih =>
      by_cases hx : ∃ m, m < n ∧ I m a w
      · obtain ⟨m, hlt, hm⟩ := hx; exact ih m hlt hm
      · exact ⟨n, hn, fun m hm => by
          rcases Nat.lt_or_ge m n with h1 | h1
          · exact absurd ⟨m, h1, hm⟩ hx
          · exact h1⟩
  let μ : Act → World → Nat := fun a w => @dite Nat (J a w) (Classical.propDecidable _) (fun h => Classical.choose (least a w h)) (fun _ => 0)
  refine wpIn_loop J μ ⟨n, h0⟩ fun a w hJ => ?_
  have hμ : μ a w = Classical.choose (least a w hJ) := dif_pos hJ
  have hsp := Classical.choose_spec (least a w hJ)
  refine wpIn_mono (round _ a w hsp.1) fun e a' w' he => ?_
  cases e with
  | normal =>
    obtain ⟨m, hlt, hm⟩ := he
    have hJ' : J a' w' := ⟨m, hm⟩
    have hμ' : μ a' w' = Classical.choose (least a' w' hJ') := dif_pos hJ'
    refine ⟨hJ', ?_⟩
    rw [hμ, hμ']
    exact Nat.lt_of_le_of_lt ((Classical.choose_spec (least a' w' hJ')).2 m hm) hlt
  | _ => exact he

theorem stepR_scope {P : Program} {b : Frame} {a : Act} {k : List Item} {cs : List Frame} {w : World} {c : Code} : step P (lone (b.atR a (.code (.scope c) :: k)) cs w) = .next (lone (b.atR a (.code c :: .inScope c :: k)) cs w) :=
  step_lone_go (by simp [stepG, stepG.exec, Frame.atR])
theorem stepR_inScope {P : Program} {b : Frame} {a : Act} {k : List Item} {cs : List Frame} {w : World} {c : Code} : step P (lone (b.atR a (.inScope c :: k)) cs w) = .next (lone (b.atR a k) cs w) :=
  step_lone_go (by simp [stepG, stepG.exec, Frame.atR])
theorem wpIn_scope_straight {F : Fence} {n : Nat} {P : Program} {Q : Exit → Act → World → Prop} {a : Act} {w : World} {c : Code} (h : c.wpIn F n P (Exit.noGoto Q) a w) : (Code.scope c).wpIn F n P Q a w := by
  intro b k cs hro hb hr
  have h0 : (lone (b.atR a (.code (.scope c) :: k)) cs w).fenced P F := fenced_calm hb hr rfl
  obtain ⟨e, a₁, w₁, hq, harr⟩ := h b (.inScope c :: k) cs hro hb hr
  cases e with
  | normal => exact ⟨.normal, a₁, w₁, hq, .head h0 stepR_scope (StepsIn.trans harr (.one (fenced_calm hb hr rfl) stepR_inScope))⟩
  | exit id =>
    have hx : exitTo id (.inScope c :: k) = exitTo id k := by simp [exitTo]
    exact ⟨.exit id, a₁, w₁, hq, fun k' hk => .head h0 stepR_scope (harr.1 k' (by rw [hx]; exact hk)),
      fun hr' hk => let ⟨k₁, h1, h2⟩ := harr.2 hr' (by rw [hx]; exact hk); ⟨k₁, h1, .head h0 stepR_scope h2⟩⟩
  | goto l => exact hq.elim
  | ret => exact ⟨_, a₁, w₁, hq, .of_steps (.one h0 stepR_scope) harr⟩
  | panic ch => exact ⟨_, a₁, w₁, hq, .of_steps (.one h0 stepR_scope) harr⟩
  | outgrown => exact ⟨_, a₁, w₁, hq, .of_steps (.one h0 stepR_scope) harr⟩

theorem rangeH.sound {N : Nat} {P : Program} {n : Nat} {D : List Deferred} {h0 : PH} {w0 : World} {g : Operand} {ps : Array Tmp} {assign body : Code} {Q : QH} {ρ : Env} {h : PH} {vs : List Nat}
    (H : rangeH P n (ev ρ g) ps assign body (Q .normal ρ) (Q .ret ρ) ((exitIds body).map fun id => (id, Q (.exit id) ρ)) (vs.map fun t => (t, ρ t)) h) {a : Act} {w : World} (hm : Match n D ρ a) (hs : Sub h w) (hf : Fr h0 w0 h w) (hD : Marks w0 D h w) :
    (Code.rangeFunc g ps assign body).wpIn (wideR none) N P (QW n Q h0 w0) a w := by
  unfold rangeH at H
  split at H
  case h_2 => exact H.elim
  rename_i gf first captured hg
  obtain ⟨he, H⟩ := H
  refine wpIn_rangeFunc fun fn _ => ?_
  have hs1 : Sub h (w.alloc (.deferred (some []))) := fun b o hb => by
    have := hs b o hb
    show (w.heap.push _)[b]? = some o
    rw [Array.getElem?_push, if_neg (Nat.ne_of_lt (hs.lt hb))]
    exact this
  have hf1 : Fr h w h (w.alloc (.deferred (some []))) := ⟨rfl, rfl, rfl, Nat.le_refl _, by rw [World.size_alloc]; omega, fun b hb _ => by
    show (w.heap.push _)[b]? = _
    rw [Array.getElem?_push, if_neg (Nat.ne_of_lt hb)], fun _ _ hn => hn⟩
  have hfr : h (w.alloc (.deferred (some []))).heap.size = none := hs1.fresh
  have hsz : (w.alloc (.deferred (some []))).heap.size = w.heap.size + 1 := World.size_alloc _ _
  have hc := H fn a.tmps (w.alloc (.deferred (some []))).heap.size w.heap.size (fun p hp => by obtain ⟨t, _, rfl⟩ := List.mem_map.1 hp; exact hm.slot t) hm.size hfr
  have hn2 : Sub (h.set (w.alloc (.deferred (some []))).heap.size (.loop { state := .ready, pending := none, fn, tmps := a.tmps, params := ps, assign, body, defers := w.heap.size })) ((w.alloc (.deferred (some []))).alloc (.loop { state := .ready, pending := none, fn, tmps := a.tmps, params := ps, assign, body, defers := w.heap.size })) ∧ Fr h (w.alloc (.deferred (some []))) (h.set (w.alloc (.deferred (some []))).heap.size (.loop { state := .ready, pending := none, fn, tmps := a.tmps, params := ps, assign, body, defers := w.heap.size })) ((w.alloc (.deferred (some []))).alloc (.loop { state := .ready, pending := none, fn, tmps := a.tmps, params := ps, assign, body, defers := w.heap.size })) := hs1.new (.loop { state := .ready, pending := none, fn, tmps := a.tmps, params := ps, assign, body, defers := w.heap.size })
  have g3 : ((w.alloc (.deferred (some []))).alloc (.loop { state := .ready, pending := none, fn, tmps := a.tmps, params := ps, assign, body, defers := w.heap.size })).heap[w.heap.size]? = some (.deferred (some [])) := by
    show ((w.heap.push _).push _)[w.heap.size]? = _
    rw [Array.getElem?_push, if_neg (by simp), Array.getElem?_push, if_pos rfl]
  have g4 : w.heap.size < ((w.alloc (.deferred (some []))).alloc (.loop { state := .ready, pending := none, fn, tmps := a.tmps, params := ps, assign, body, defers := w.heap.size })).heap.size := by rw [World.size_alloc, World.size_alloc]; omega
  have hent : (Instr.enterLoop fn a.tmps ps assign body none).run P w = .ok (w.heap.size + 1, [markOf w.heap.size]) ((w.alloc (.deferred (some []))).alloc (.loop { state := .ready, pending := none, fn, tmps := a.tmps, params := ps, assign, body, defers := w.heap.size })) := run_enterLoop_outer _ _ _ _ _
  rw [hsz] at hc hn2
  generalize (w.alloc (.deferred (some []))).alloc (.loop { state := .ready, pending := none, fn, tmps := a.tmps, params := ps, assign, body, defers := w.heap.size }) = w1 at hn2 g3 g4 hent
  have hcw := hc.calls he _ hn2.1
  have heg : ∀ (args : Array Value) (w : World), (callFunc gf args).run P w = .ok (.enter gf args) w := fun args w =>
    SemE.run (h := fun _ => none) (semE_enter he) (fun _ _ hb => by cases hb)
  have hev : a.eval g = .func (.func gf) first captured := by rw [hm.ev]; exact hg
  have g2 : (h.set (w.heap.size + 1) (.loop { state := .ready, pending := none, fn, tmps := a.tmps, params := ps, assign, body, defers := w.heap.size })) w.heap.size = none := by
    unfold PH.set; rw [if_neg (by omega)]; exact hs.fresh
  refine ⟨w.heap.size + 1, [markOf w.heap.size], w1, { target := .fn (.func gf) captured, args := first ++ #[.func (.yield (w.heap.size + 1)) #[] #[]] }, w1, gf, first ++ #[.func (.yield (w.heap.size + 1)) #[] #[]] ++ captured, w1, ?_, ?_, ?_, ?_, ?_, ?_⟩
  · exact hent
  · simp only [resolve, rangeCall, hev]
    simp [Deferred.ofValue, Act.eval]
  · intro f' _; trivial
  · unfold invoke
    exact heg _ _
  · intro h; cases h
  · refine callsIn_wideR (hcw.mono fun e w' hh => ?_)
    obtain ⟨v, h', rfl, hse, hs', hf'⟩ := hh
    obtain ⟨jump, w4, h4, hrun, hj, hs4, hf4⟩ := hse.sound hs'
    have hf2 := hf'.trans hf4
    have hfall : Fr h w h4 w4 := (hf1.trans hn2.2).trans hf2
    have hD' : Marks w0 (markOf w.heap.size :: D) h4 w4 := by
      obtain ⟨bs, b1, b2, b3⟩ := hD
      refine ⟨w.heap.size :: bs, List.nodup_cons.2 ⟨fun hmem => absurd (b3 _ hmem).2.1 (Nat.lt_irrefl _), b1⟩, by rw [b2]; rfl, fun b hb => ?_⟩
      rcases List.mem_cons.1 hb with rfl | hb
      · exact ⟨hf.size, Nat.lt_of_lt_of_le g4 hf2.size, hf2.none _ g4 g2, (hf2.far _ g4 g2).trans g3⟩
      · obtain ⟨c1, c2, c3, c4⟩ := b3 b hb
        exact ⟨c1, Nat.lt_of_lt_of_le c2 hfall.size, hfall.none b c2 c3, (hfall.far b c2 c3).trans c4⟩
    refine ⟨jump, w4, hrun, ?_⟩
    have hm' : Match n (markOf w.heap.size :: D) ρ { a with defers := [markOf w.heap.size] ++ a.defers } := ⟨by simp [hm.defers], hm.size, hm.slot⟩
    unfold jumpH at hj
    cases jump with
    | none => exact ⟨ρ, h4, _, hj, hm', hs4, hf.trans hfall, hD'⟩
    | some c =>
      cases c with
      | ret => exact wpIn_ret ⟨ρ, h4, _, hj, hm', hs4, hf.trans hfall, hD'⟩
      | exit id =>
        obtain ⟨p, hp, e1, e2⟩ := hj
        obtain ⟨id', _, rfl⟩ := List.mem_map.1 hp
        subst e1
        exact wpIn_exit ⟨ρ, h4, _, e2, hm', hs4, hf.trans hfall, hD'⟩
      | _ => exact hj.elim

theorem codeH.sound {r : Option Nat} {N : Nat} {P : Program} {ann : Ann} {n : Nat} (hmix : P.follows .mixedOrders = true) {h0 : PH} {w0 : World} : ∀ (c : Code) {Q : QH} {ρ : Env} {h : PH}, codeB P ann n c = true → (r = none ∨ noRange c = true) → codeH P ann c Q ρ h →
    ∀ {D : List Deferred} {a : Act} {w : World}, Match n D ρ a → Sub h w → Fr h0 w0 h w → Marks w0 D h w → c.wpIn (wideR r) N P (QW n Q h0 w0) a w := by
  intro c
  induction c with
  | skip => intro Q ρ h _ _ H D a w hm hs hf hD; exact wpIn_skip ⟨ρ, h, D, H, hm, hs, hf, hD⟩
  | region id ops d =>
    intro Q ρ h hb _ H D a w hm hs hf hD
    cases d with
    | false =>
      refine wpIn_region ?_
      rw [List.range_eq_range']
      exact ops_wp (fun o ho => Array.all_eq_true_iff_forall_mem.1 hb o ho) ops.size 0 ρ h a w (by omega) (by simpa [codeH] using H) hm hs hf hD
    | true =>
      simp only [codeB, Bool.and_eq_true] at hb
      exact draw_wp hmix (fun o ho => Array.all_eq_true_iff_forall_mem.1 hb.1 o ho) hb.2 H hm hs hf hD
  | seq x y ihx ihy =>
    intro Q ρ h hb hr H D a w hm hs hf hD
    simp only [codeB, Bool.and_eq_true] at hb
    have hr' : (r = none ∨ noRange x = true) ∧ (r = none ∨ noRange y = true) := by simp only [noRange, Bool.and_eq_true] at hr; rcases hr with e | ⟨e1, e2⟩; exact ⟨.inl e, .inl e⟩; exact ⟨.inr e1, .inr e2⟩
    refine wpIn_seq (wpIn_mono (ihx hb.1 hr'.1 H hm hs hf hD) fun e a' w' ⟨ρ', h', D', hq, hm', hs', hf', hD'⟩ => ?_)
    cases e with
    | normal => exact ihy hb.2 hr'.2 hq hm' hs' hf' hD'
    | _ => exact ⟨ρ', h', D', hq, hm', hs', hf', hD'⟩
  | cond c x y ihx ihy =>
    intro Q ρ h hb hr H D a w hm hs hf hD
    simp only [codeB, Bool.and_eq_true] at hb
    have hr' : (r = none ∨ noRange x = true) ∧ (r = none ∨ noRange y = true) := by simp only [noRange, Bool.and_eq_true] at hr; rcases hr with e | ⟨e1, e2⟩; exact ⟨.inl e, .inl e⟩; exact ⟨.inr e1, .inr e2⟩
    have he : a.eval c = ev ρ c := by rw [hm.ev]
    unfold codeH condV at H
    split at H
    · rename_i hv; exact wpIn_cond_true (he.trans hv) (ihx hb.1 hr'.1 H hm hs hf hD)
    · rename_i hv; exact wpIn_cond_false (he.trans hv) (ihy hb.2 hr'.2 H hm hs hf hD)
    · exact H.elim
  | block id c ih =>
    intro Q ρ h hb hr H D a w hm hs hf hD
    refine wpIn_block (wpIn_mono (ih hb hr H hm hs hf hD) fun e a' w' ⟨ρ', h', D', hq, hm', hs', hf', hD'⟩ => ?_)
    cases e with
    | exit id' =>
      simp only [Exit.inBlock, inBlockH] at hq ⊢
      split
      · rename_i e; rw [if_pos e] at hq; exact ⟨ρ', h', D', hq, hm', hs', hf', hD'⟩
      · rename_i e; rw [if_neg e] at hq; exact ⟨ρ', h', D', hq, hm', hs', hf', hD'⟩
    | _ => exact ⟨ρ', h', D', hq, hm', hs', hf', hD'⟩
  | loop c ih =>
    intro Q ρ h hb hr H D a w hm hs hf hD
    obtain ⟨I, μ, hI, hround⟩ := H
    generalize ann.keep (headId c) = keep at *
    refine wp_loop_rel (fun m a w => ∃ ρ h D, I (keep.map ρ) h ∧ μ (keep.map ρ) h = m ∧ Match n D ρ a ∧ Sub h w ∧ Fr h0 w0 h w ∧ Marks w0 D h w) (fun m a w ⟨ρ, h, D, hI, hμ, hm, hs, hf, hD⟩ => ?_) (n := μ (keep.map ρ) h) ⟨ρ, h, D, hI, rfl, hm, hs, hf, hD⟩
    refine wpIn_mono (ih hb hr (hround ρ h hI) hm hs hf hD) fun e a' w' ⟨ρ', h', D', hq, hm', hs', hf', hD'⟩ => ?_
    cases e with
    | normal => exact ⟨_, hμ ▸ hq.2, ρ', h', D', hq.1, rfl, hm', hs', hf', hD'⟩
    | _ => exact ⟨ρ', h', D', hq, hm', hs', hf', hD'⟩
  | exit id => intro Q ρ h _ _ H D a w hm hs hf hD; exact wpIn_exit ⟨ρ, h, D, H, hm, hs, hf, hD⟩
  | scope c ih =>
    intro Q ρ h hb hr H D a w hm hs hf hD
    refine wpIn_scope_straight (wpIn_mono (ih hb hr H hm hs hf hD) fun e a' w' ⟨ρ', h', D', hq, hm', hs', hf', hD'⟩ => ?_)
    cases e with
    | goto l => exact hq
    | _ => exact ⟨ρ', h', D', hq, hm', hs', hf', hD'⟩
  | label l => intro Q ρ h _ _ H D a w hm hs hf hD; exact wpIn_label ⟨ρ, h, D, H, hm, hs, hf, hD⟩
  | ret => intro Q ρ h _ _ H D a w hm hs hf hD; exact wpIn_ret ⟨ρ, h, D, H, hm, hs, hf, hD⟩
  | rangeFunc f ps x y ih1 ih2 =>
    intro Q ρ h hb hr H D a w hm hs hf hD
    rcases hr with rfl | hr
    · simp only [codeB, beq_iff_eq] at hb
      unfold codeH at H
      rw [hb] at H
      exact rangeH.sound H hm hs hf hD
    · cases hr
  | goto l => intro Q ρ h _ _ H; exact H.elim
  | refuse s => intro Q ρ h _ _ H; exact H.elim

/-- How a round ends. -/
def roundQ (P : Program) (l : Nat) (kv : Value → PH → Prop) : QH
  | .normal, _, h => SemH P (Instr.endRound l none) h kv
  | .ret, _, h => SemH P (Instr.endRound l (some .ret)) h kv
  | .exit id, _, h => SemH P (Instr.endRound l (some (.exit id))) h kv
  | _, _, _ => False
/-- A round of a range over a function: the left sides are assigned to; the record is busy; the body; the record is ready anew, or done. -/
def roundH (P : Program) (ann : Ann) (l : Nat) (assign body : Code) (kv : Value → PH → Prop) (ρ : Env) (h : PH) : Prop :=
  codeH P ann assign (fun e ρ h => match e with
    | .normal => SemH P (Instr.beginRound l) h fun _ h' => codeH P ann body (roundQ P l kv) ρ h'
    | _ => False) ρ h
theorem roundH.next {P : Program} (ann : Ann) (hmix : P.follows .mixedOrders = true) {l : Nat} {f : FuncId} {tmps : Array Value} {assign body : Code} {kv : Value → PH → Prop} {h : PH}
    (hA : (codeB P ann tmps.size assign && noRange assign && codeB P ann tmps.size body && noRange body) = true) (H : roundH P ann l assign body kv (fun t => tmps.getD t undef) h) :
    NextH P (.round l f tmps assign body) h kv := by
  simp only [Bool.and_eq_true] at hA
  obtain ⟨⟨⟨a1, a2⟩, a3⟩, a4⟩ := hA
  intro w hs
  refine roundIn_of_wpIn trivial (wpIn_mono (codeH.sound (r := some l) (D := []) hmix assign a1 (.inr a2) H ⟨rfl, rfl, fun _ => rfl⟩ hs (Fr.refl h w) (Marks.nil _ _ _)) fun e a' w' ⟨ρ', h', D', hq, hm', hs', hf', hD'⟩ => ?_)
  cases e with
  | normal =>
    obtain ⟨u, w2, h2, hrun, hb, hs2, hf2⟩ := hq.sound hs'
    refine ⟨w2, hrun, wpIn_mono (codeH.sound (r := some l) hmix body a3 (.inr a4) hb hm' hs2 (hf'.trans hf2) (hD'.step hf2)) fun e a3 w3 ⟨ρ3, h3, D3, hq3, hm3, hs3, hf3, hD3⟩ => ?_⟩
    cases e with
    | normal => obtain ⟨v, w4, h4, hrun4, hk, hs4, hf4⟩ := SemH.sound hq3 hs3; exact ⟨v, w4, hrun4, v, h4, rfl, hk, hs4, hf3.trans hf4⟩
    | ret => obtain ⟨v, w4, h4, hrun4, hk, hs4, hf4⟩ := SemH.sound hq3 hs3; exact ⟨v, w4, hrun4, v, h4, rfl, hk, hs4, hf3.trans hf4⟩
    | exit id => obtain ⟨v, w4, h4, hrun4, hk, hs4, hf4⟩ := SemH.sound hq3 hs3; exact ⟨v, w4, hrun4, v, h4, rfl, hk, hs4, hf3.trans hf4⟩
    | _ => exact hq3.elim
  | _ => exact hq.elim

/-! ### Results -/
def resL (P : Program) (ρ : Env) (h : PH) : List ResultVar → (List Value → Prop) → Prop
  | [], k => k []
  | .tmp t :: rs, k => resL P ρ h rs fun vs => k (ρ t :: vs)
  | .cell a t :: rs, k => popO (SemE P h (Instr.loadAt t (ρ a))) fun v => resL P ρ h rs fun vs => k (v :: vs)
def oneOf : List Value → Value
  | [v] => v
  | vs => .tuple vs.toArray
def resH (P : Program) (fn : Func) (ρ : Env) (h : PH) (R : Value → PH → Prop) : Prop := resL P ρ h fn.results.toList fun vs => R (oneOf vs) h
def resF (tmps : Array Value) : ResultVar → Sem Value
  | .tmp t => pure (tmps.getD t undef)
  | .cell x t => do loadVar t (← asAddr (tmps.getD x undef))
theorem resL.run {P : Program} {ρ : Env} {h : PH} {n : Nat} {D : List Deferred} {a : Act} {w : World} (hm : Match n D ρ a) (hs : Sub h w) : ∀ (l : List ResultVar) {k : List Value → Prop}, resL P ρ h l k →
    ∃ vs, k vs ∧ (l.mapM (m := Sem) (resF a.tmps)).run P w = .ok vs w := by
  intro l
  induction l with
  | nil => intro k H; exact ⟨[], H, rfl⟩
  | cons r rs ih =>
    intro k H
    cases r with
    | tmp t =>
      obtain ⟨vs, hk, hr⟩ := ih H
      refine ⟨_, hk, ?_⟩
      have h1 : (resF a.tmps (.tmp t)).run P w = .ok (ρ t) w := by
        show (pure (a.tmps.getD t undef) : Sem Value).run P w = _
        rw [hm.slot]; rfl
      rw [List.mapM_cons]
      simp only [Sem.run_bind, Sem.run_pure, Result.andThen_ok, h1, hr]
    | cell x t =>
      obtain ⟨v, hv, H'⟩ := popO_iff.1 H
      obtain ⟨vs, hk, hr⟩ := ih H'
      refine ⟨_, hk, ?_⟩
      rw [List.mapM_cons]
      have h1 : (resF a.tmps (.cell x t)).run P w = .ok v w := by
        have h2 := SemE.run hv hs
        show (do loadVar t (← asAddr (a.tmps.getD x undef)) : Sem Value).run P w = _
        rw [hm.slot]
        unfold Instr.loadAt Instr.sureAddr at h2
        generalize ρ x = y at *
        cases y with
        | pointer p => cases p with
          | none => exact absurd hv (by intro hc; cases hc)
          | some p => exact h2
        | _ => exact absurd hv (by intro hc; cases hc)
      simp only [Sem.run_bind, Sem.run_pure, Result.andThen_ok, h1, hr]

/-- How a call is shown: by its body. -/
theorem callsH_of {P : Program} {f : FuncId} {fn : Func} {c : Code} (ann : Ann) (hmix : P.follows .mixedOrders = true) (hf : P.funcs[f]? = some fn) (hb : fn.body = some c) (hen : enters P f = true) (hB : codeB P ann fn.ntmps c = true)
    {args : Array Value} (hargs : args.size ≤ fn.ntmps) {h : PH} {R : Value → PH → Prop}
    (H : codeH P ann c (fun e ρ h => match e with
      | .normal | .ret => resH P fn ρ h R
      | _ => False) (fun t => args.getD t undef) h) : CallsH P f args h R := by
  refine .inl ⟨hen, fun w hs => (callsIn_wide (n := 0)).1 (callsIn_of_wp_marks hf hb trivial ?_)⟩
  have hm : Match fn.ntmps [] (fun t => args.getD t undef) { tmps := args ++ Array.replicate (fn.ntmps - args.size) undef, defers := [] } := by
    refine ⟨rfl, by simp; omega, fun t => ?_⟩
    simp only [Array.getD_eq_getD_getElem?, Array.getElem?_append, Array.getElem?_replicate]
    by_cases hlt : t < args.size
    · simp [hlt]
    · rw [if_neg hlt]
      have : args[t]? = none := Array.getElem?_eq_none (by omega)
      rw [this]
      split <;> rfl
  refine wpIn_mono (codeH.sound (r := none) hmix c hB (.inl rfl) H hm hs (Fr.refl _ _) (Marks.nil w h w)) fun e a' w' ⟨ρ', h', D', hq, hm', hs', hf', hD'⟩ => ?_
  have fin : ∀ (ds : List Deferred) (w' : World), Sub h' w' → Fr h w h' w' → Marks w ds h' w' → resH P fn ρ' h' R → LeavesInM Fence.wide 0 P fn a'.tmps (fun e w' => ∃ v h', e = .returned v ∧ R v h' ∧ Sub h' w' ∧ Fr h w h' w') ds .returning w' := by
    intro ds
    induction ds with
    | nil =>
      intro w' hs' hf' _ hr
      obtain ⟨vs, hk, hrun⟩ := resL.run hm' hs' fn.results.toList hr
      refine ⟨oneOf vs, ?_, _, h', rfl, hk, hs', hf'⟩
      show ((do let vs ← fn.results.mapM (resF a'.tmps); pure (if h : vs.size = 1 then vs[0] else .tuple vs) : Sem Value)).run P w' = _
      rw [Array.mapM_eq_mapM_toList]
      simp only [Sem.run_bind, Sem.run_map, Result.andThen_ok, hrun]
      simp only [Sem.run_pure]
      congr 1
      cases vs with
      | nil => rfl
      | cons v vs => cases vs with
        | nil => rfl
        | cons u us => simp [oneOf]
    | cons d ds ih =>
      intro w' hs' hf' hD' hr
      obtain ⟨bs, b1, b2, b3⟩ := hD'
      cases bs with
      | nil => cases b2
      | cons b bs =>
        simp only [List.map_cons, List.cons.injEq] at b2
        obtain ⟨rfl, rfl⟩ := b2
        obtain ⟨c1, c2, c3, c4⟩ := b3 b List.mem_cons_self
        obtain ⟨hnot, b1⟩ := List.nodup_cons.1 b1
        have hne : ∀ i, i ≠ b → (w'.putObj b (.deferred none)).heap[i]? = w'.heap[i]? := fun i hi => by
          simp [World.putObj, Array.getElem?_setIfInBounds, Ne.symm hi]
        have hsz : (w'.putObj b (.deferred none)).heap.size = w'.heap.size := by simp [World.putObj]
        refine ⟨(by intro e; cases e), .inl ⟨b, _, rfl, run_takeDeferred c4, ih _ (fun i o hi => ?_) ⟨hf'.os, hf'.tape, hf'.output, hf'.drawn, by rw [hsz]; exact hf'.size, fun i hi hn => ?_, hf'.none⟩ ⟨bs, b1, rfl, fun i hi => ?_⟩ hr⟩⟩
        · rw [hne i (fun e => by subst e; rw [c3] at hi; cases hi)]; exact hs' i o hi
        · rw [hne i (fun e => by subst e; omega)]; exact hf'.far i hi hn
        · obtain ⟨e1, e2, e3, e4⟩ := b3 i (List.mem_cons_of_mem _ hi)
          exact ⟨e1, by rw [hsz]; exact e2, e3, by rw [hne i (fun e => by subst e; exact hnot hi)]; exact e4⟩
  have hfin := fin D' w' hs' hf' hD'
  rw [← hm'.defers] at hfin
  cases e with
  | normal => exact hfin hq
  | ret => exact hfin hq
  | _ => exact hq.elim

/-! ### Words that the printed functions use -/
/-- The ranges over functions of a code, in order. -/
def rangesOf : Code → List (Code × Code)
  | .seq x y => rangesOf x ++ rangesOf y
  | .cond _ x y => rangesOf x ++ rangesOf y
  | .block _ c => rangesOf c
  | .loop c => rangesOf c
  | .scope c => rangesOf c
  | .rangeFunc _ _ a b => [(a, b)]
  | _ => []
def bodyOf (fn : Func) : Code := fn.body.getD .skip
def endH (P : Program) (fn : Func) (R : Value → PH → Prop) : QH := fun e ρ h => match e with
  | .normal | .ret => resH P fn ρ h R
  | _ => False
def bindH (h : PH) (k : PH → Prop) : Prop := k h
def yV (v : Value) : Option Bool := match v with
  | .bool b => some b
  | _ => none
def nilS (v : Value) : Sem Value := match v with
  | .pointer none | .nilIface | .nilFunc => .halt (.stuck "nil")
  | .func (.method _) _ _ => .halt (.stuck "method")
  | x => pure x
def binS (op : BinOp) (t : TypeId) (x y : Operand) (a b : Value) : Sem Value := do eqGuard op t x y a b; binOp op t a b
def storeS (t : TypeId) (a x : Value) : Sem Value := do Instr.storeAt t a x; pure undef
def mapUpdS (t : TypeId) (m k x : Value) : Sem Value := do Instr.mapUpdate t m k x; pure undef
def entryStoreS (t : TypeId) (m s x : Value) : Sem Value := do Instr.entryStore t m s x; pure undef
def callC (P : Program) (f : Value) (args : Array Value) (h : PH) (kv : Value → PH → Prop) : Prop := match f with
  | .func (.func f) first captured => CallsH P f (first ++ args ++ captured) h kv
  | .func fn first captured => SemH P (invoke (.fn fn captured) (first ++ args)) h fun n h' => NextH P n h' kv
  | _ => False
def callI (P : Program) (recv : Value) (name : String) (args : Array Value) (h : PH) (kv : Value → PH → Prop) : Prop :=
  SemH P (callMethod recv name args) h fun n h' => NextH P n h' kv
def zcells (P : Program) (t : TypeId) : Array Value := match P.info? t with
  | some i => match i.zero with
    | some v => v.cells
    | none => #[]
  | none => #[]
/-- The same, by rounds of one step: for the kernel, whose unfolding it keeps small. -/
def codeS (P : Program) (ann : Ann) (ih : Code → QH → Env → PH → Prop) (c : Code) (Q : QH) (ρ : Env) (h : PH) : Prop := match c with
  | .skip => Q .normal ρ h
  | .region _ ops false => opsH P ops (Q .normal) ops.toList ρ h
  | .region id ops true => opsD P ops (ann.b id) (Q .normal) [] (ann.ord id) ρ h
  | .seq x y => ih x (thenH (ih y Q) Q) ρ h
  | .cond c x y => condV (ev ρ c) (ih x Q ρ h) (ih y Q ρ h)
  | .block id c => ih c (inBlockH id Q) ρ h
  | .loop c => LoopL (ann.keep (headId c)) (fun next ρ h => ih c (thenH (fun ρ' h' => next ((ann.keep (headId c)).map ρ') h') Q) ρ h) ((ann.keep (headId c)).map ρ) h
  | .exit id => Q (.exit id) ρ h
  | .ret => Q .ret ρ h
  | .label _ => Q .normal ρ h
  | .scope c => ih c (noGotoH Q) ρ h
  | .rangeFunc g ps assign body => rangeH P ann.n (ev ρ g) ps assign body (Q .normal ρ) (Q .ret ρ) ((exitIds body).map fun id => (id, Q (.exit id) ρ)) ((ann.keep (headId body)).map fun t => (t, ρ t)) h
  | _ => False
noncomputable def codeF (P : Program) (ann : Ann) (n : Nat) : Code → QH → Env → PH → Prop := Nat.rec (fun _ _ _ _ => False) (fun _ ih => codeS P ann ih) n
def depthC : Code → Nat
  | .seq x y => max (depthC x) (depthC y) + 1
  | .cond _ x y => max (depthC x) (depthC y) + 1
  | .block _ c => depthC c + 1
  | .loop c => depthC c + 1
  | .scope c => depthC c + 1
  | _ => 0
theorem codeF_eq {P : Program} {ann : Ann} : ∀ (c : Code) (n : Nat), depthC c < n → codeF P ann n c = codeH P ann c := by
  intro c
  induction c with
  | skip => intro n hn; obtain ⟨m, rfl⟩ : ∃ m, n = m + 1 := ⟨n - 1, by omega⟩; rfl
  | region id ops d => intro n hn; obtain ⟨m, rfl⟩ : ∃ m, n = m + 1 := ⟨n - 1, by omega⟩; cases d <;> rfl
  | seq x y ihx ihy =>
    intro n hn
    obtain ⟨m, rfl⟩ : ∃ m, n = m + 1 := ⟨n - 1, by omega⟩
    simp only [depthC] at hn
    funext Q ρ h
    show codeF P ann m x (thenH (codeF P ann m y Q) Q) ρ h = codeH P ann x (thenH (codeH P ann y Q) Q) ρ h
    rw [ihx m (by omega), ihy m (by omega)]
  | cond c x y ihx ihy =>
    intro n hn
    obtain ⟨m, rfl⟩ : ∃ m, n = m + 1 := ⟨n - 1, by omega⟩
    simp only [depthC] at hn
    funext Q ρ h
    show condV (ev ρ c) (codeF P ann m x Q ρ h) (codeF P ann m y Q ρ h) = condV (ev ρ c) (codeH P ann x Q ρ h) (codeH P ann y Q ρ h)
    rw [ihx m (by omega), ihy m (by omega)]
  | block id c ih =>
    intro n hn
    obtain ⟨m, rfl⟩ : ∃ m, n = m + 1 := ⟨n - 1, by omega⟩
    simp only [depthC] at hn
    funext Q ρ h
    show codeF P ann m c (inBlockH id Q) ρ h = codeH P ann c (inBlockH id Q) ρ h
    rw [ih m (by omega)]
  | loop c ih =>
    intro n hn
    obtain ⟨m, rfl⟩ : ∃ m, n = m + 1 := ⟨n - 1, by omega⟩
    simp only [depthC] at hn
    funext Q ρ h
    show LoopL (ann.keep (headId c)) (fun next ρ h => codeF P ann m c (thenH (fun ρ' h' => next ((ann.keep (headId c)).map ρ') h') Q) ρ h) ((ann.keep (headId c)).map ρ) h = LoopL (ann.keep (headId c)) (fun next ρ h => codeH P ann c (thenH (fun ρ' h' => next ((ann.keep (headId c)).map ρ') h') Q) ρ h) ((ann.keep (headId c)).map ρ) h
    rw [ih m (by omega)]
  | scope c ih =>
    intro n hn
    obtain ⟨m, rfl⟩ : ∃ m, n = m + 1 := ⟨n - 1, by omega⟩
    simp only [depthC] at hn
    funext Q ρ h
    show codeF P ann m c (noGotoH Q) ρ h = codeH P ann c (noGotoH Q) ρ h
    rw [ih m (by omega)]
  | _ => intro n hn; obtain ⟨m, rfl⟩ : ∃ m, n = m + 1 := ⟨n - 1, by omega⟩; rfl
/-- A round, for the kernel. -/
noncomputable def roundF (P : Program) (ann : Ann) (n l : Nat) (assign body : Code) (kv : Value → PH → Prop) (ρ : Env) (h : PH) : Prop :=
  codeF P ann n assign (fun e ρ h => match e with
    | .normal => SemH P (Instr.beginRound l) h fun _ h' => codeF P ann n body (roundQ P l kv) ρ h'
    | _ => False) ρ h
theorem roundF_by {P : Program} (ann : Ann) (n : Nat) (hmix : P.follows .mixedOrders = true) {l m : Nat} {f : FuncId} {tmps : Array Value} {assign body : Code} {kv : Value → PH → Prop} {h : PH}
    (hm : tmps.size = m) (hd : (decide (depthC assign < n) && decide (depthC body < n)) = true) (hA : (codeB P ann m assign && noRange assign && codeB P ann m body && noRange body) = true) {X : Prop}
    (he : roundF P ann n l assign body kv (fun t => tmps.getD t undef) h = X) (H : X) : NextH P (.round l f tmps assign body) h kv := by
  subst hm
  rw [← he] at H
  simp only [Bool.and_eq_true, decide_eq_true_eq] at hd
  unfold roundF at H
  rw [codeF_eq _ _ hd.1] at H
  rw [codeF_eq _ _ hd.2] at H
  exact roundH.next ann hmix hA H
theorem callsF_by {P : Program} {f : FuncId} {fn : Func} (ann : Ann) (n : Nat) (hmix : P.follows .mixedOrders = true) (hf : P.funcs[f]? = some fn) (hen : enters P f = true) (hb : fn.body.isSome = true) (hd : decide (depthC (bodyOf fn) < n) = true) (hB : codeB P ann fn.ntmps (bodyOf fn) = true)
    {args : Array Value} (hargs : args.size ≤ fn.ntmps) {h : PH} {R : Value → PH → Prop} {X : Prop}
    (he : codeF P ann n (bodyOf fn) (endH P fn R) (fun t => args.getD t undef) h = X) (H : X) : CallsH P f args h R := by
  obtain ⟨c, hc⟩ := Option.isSome_iff_exists.1 hb
  have e : bodyOf fn = c := by unfold bodyOf; rw [hc]; rfl
  rw [codeF_eq _ _ (by simpa using hd)] at he
  rw [e] at hB he
  rw [← he] at H
  exact callsH_of ann hmix hf hc hen hB hargs H
theorem callsH_by {P : Program} {f : FuncId} {fn : Func} (ann : Ann) (hmix : P.follows .mixedOrders = true) (hf : P.funcs[f]? = some fn) (hen : enters P f = true) (hb : fn.body.isSome = true) (hB : codeB P ann fn.ntmps (bodyOf fn) = true)
    {args : Array Value} (hargs : args.size ≤ fn.ntmps) {h : PH} {R : Value → PH → Prop} {X : Prop}
    (he : codeH P ann (bodyOf fn) (endH P fn R) (fun t => args.getD t undef) h = X) (H : X) : CallsH P f args h R := by
  obtain ⟨c, hc⟩ := Option.isSome_iff_exists.1 hb
  have e : bodyOf fn = c := by unfold bodyOf; rw [hc]; rfl
  rw [e] at hB he
  rw [← he] at H
  exact callsH_of ann hmix hf hc hen hB hargs H
end Go.Proofs.YtllopddcpkhfjaaDoor
