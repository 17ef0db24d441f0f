/- A region that draws its order: one order of ours is enough, where each pair of operations that Go leaves unordered may change places. -/
import Derived.Test.YtllopddcpkhfjaaDoorHCode
set_option linter.unusedSimpArgs false
set_option linter.unusedVariables false
namespace Go.Proofs.YtllopddcpkhfjaaDoor
open Go

def Rl (h : PH) : Prop := ∃ w, Sub h w
abbrev Tr := PH → (Value → PH → Prop) → Prop

theorem Rl.fresh {h : PH} (hr : Rl h) : ∃ r, h r = none := let ⟨w, hs⟩ := hr; ⟨w.heap.size, hs.fresh⟩
theorem Rl.set {h : PH} (hr : Rl h) {r : Nat} (hn : h r = none) (o : Obj) : Rl (h.set r o) := by
  obtain ⟨w, hs⟩ := hr
  let n := max w.heap.size (r + 1)
  refine ⟨{ w with heap := (Array.range n).map fun b => if b = r then o else (w.heap[b]?).getD default }, fun b u hb => ?_⟩
  unfold PH.set at hb
  have hlt : b < n := by
    split at hb
    · omega
    · have := hs.lt hb; omega
  simp only [Array.getElem?_map, Array.getElem?_range, hlt, if_true, Option.map_some]
  split at hb
  · rename_i e; rw [if_pos e]; exact hb
  · rename_i e; rw [if_neg e, hs _ _ hb]; rfl

theorem SemE.set {P : Program} {α : Type} {s : Sem α} {r : Nat} {o : Obj} : ∀ {h : PH} {a : α}, SemE P h s = some a → h r = none → SemE P (h.set r o) s = some a := by
  have hset : ∀ (h : PH) b, h r = none → (∃ u, h b = some u) → (h.set r o) b = h b := by
    intro h b hr ⟨u, hu⟩
    unfold PH.set
    rw [if_neg]
    rintro rfl; rw [hr] at hu; cases hu
  induction s with
  | pure a => intro h b hb _; exact hb
  | load m a k ih =>
    intro h b hb hr
    obtain ⟨v, hv, hb⟩ := Option.bind_eq_some_iff.1 hb
    obtain ⟨c, e, f, hblk⟩ := cellH_block hv
    refine Option.bind_eq_some_iff.2 ⟨v, ?_, ih v hb hr⟩
    unfold cellH at *; rw [hset h _ hr ⟨_, hblk⟩]; exact hv
  | shape r' k ih =>
    intro h b hb hr
    obtain ⟨v, hv, hb⟩ := Option.bind_eq_some_iff.1 hb
    have hblk : ∃ u, h r' = some u := by
      unfold shapeH at hv
      cases hx : h r' with
      | none => rw [hx] at hv; cases hv
      | some u => exact ⟨u, rfl⟩
    refine Option.bind_eq_some_iff.2 ⟨v, ?_, ih v hb hr⟩
    unfold shapeH at *; rw [hset h _ hr hblk]; exact hv
  | frozen a k ih =>
    intro h b hb hr
    obtain ⟨v, hv, hb⟩ := Option.bind_eq_some_iff.1 hb
    have e := hset h _ hr ⟨_, hv⟩
    refine Option.bind_eq_some_iff.2 ⟨v, by rw [e]; exact hv, ?_⟩
    have : frozenH (h.set r o) a = frozenH h a := by unfold frozenH; rw [e]
    rw [this]; exact ih _ hb hr
  | program k ih => intro h b hb hr; exact ih P hb hr
  | mark m k ih => intro h b hb hr; exact ih hb hr
  | getObj r' k ih =>
    intro h b hb hr
    simp only [SemE] at hb ⊢
    cases hx : h r' with
    | none => rw [hx] at hb; cases hb
    | some u =>
      rw [hset h _ hr ⟨_, hx⟩, hx]
      rw [hx] at hb
      cases u <;> first | cases hb | exact ih _ hb hr
  | _ => intro h b hb; cases hb

/-! ### What each class's operation does, as it stands in a region -/
theorem SemH.real {P : Program} {α : Type} {s : Sem α} : ∀ {h : PH} {Q : α → PH → Prop}, SemH P s h Q → Rl h → SemH P s h fun a h' => Q a h' ∧ Rl h' := by
  induction s with
  | pure a => intro h Q hh hr; exact ⟨hh, hr⟩
  | load m a k ih => rintro h Q ⟨v, hv, hh⟩ hr; exact ⟨v, hv, ih v hh hr⟩
  | store m a v k ih =>
    rintro h Q ⟨h1, h2, h3, hh⟩ hr
    refine ⟨h1, h2, h3, ih hh ?_⟩
    obtain ⟨w, hs⟩ := hr
    obtain ⟨u, hu⟩ := h3
    obtain ⟨c, e, f, hb⟩ := cellH_block hu
    exact ⟨_, (hs.modify a.block (fun | .cells c elem frozen => .cells (if a.spot.isSome then c else c.setIfInBounds a.off v) elem frozen | o => o) (setCellH h a v)
      (fun b => by
        unfold setCellH
        split
        · cases h b with
          | none => rfl
          | some o => cases o <;> rfl
        · rfl) hb).1⟩
  | new o k ih => intro h Q hh hr r hn; exact ih r (hh r hn) (hr.set hn o)
  | shape r k ih => rintro h Q ⟨v, hv, hh⟩ hr; exact ⟨v, hv, ih v hh hr⟩
  | freeze a n k ih =>
    rintro h Q ⟨⟨o, ho⟩, hh⟩ hr
    refine ⟨⟨o, ho⟩, ih hh ?_⟩
    obtain ⟨w, hs⟩ := hr
    by_cases hn : n = 0
    · have e : freezeH h a n = h := by funext b; simp [freezeH, hn]
      rw [e]; exact ⟨w, hs⟩
    · exact ⟨_, (hs.modify a.block (fun | .cells c elem (lo, hi) => .cells c elem (if lo == hi then (a.off, a.off + n) else (min lo a.off, max hi (a.off + n))) | o => o) (freezeH h a n)
        (fun b => by
          unfold freezeH; rw [if_neg hn]
          split
          · cases h b with
            | none => rfl
            | some o => cases o <;> rfl
          · rfl) ho).1⟩
  | frozen a k ih => rintro h Q ⟨h1, hh⟩ hr; exact ⟨h1, ih _ hh hr⟩
  | getObj r k ih => rintro h Q ⟨o, ho, hc, hh⟩ hr; exact ⟨o, ho, hc, ih o hh hr⟩
  | setObj r o k ih =>
    rintro h Q ⟨⟨u, hu, hc⟩, hh⟩ hr
    refine ⟨⟨u, hu, hc⟩, ih hh ?_⟩
    obtain ⟨w, hs⟩ := hr
    exact ⟨_, (hs.modify r (fun _ => o) (h.set r o) (fun b => by
      unfold PH.set
      split
      · rename_i e; subst e; rw [hu]; rfl
      · rfl) hu).1⟩
  | choose q k ih => intro h Q hh hr t; exact ih _ (hh t) hr
  | sys c k ih => intro h Q hh; exact hh.elim
  | program k ih => intro h Q hh hr; exact ih P hh hr
  | mark m k ih => intro h Q hh hr; exact ih hh hr
  | halt x => intro h Q hh; exact hh.elim

theorem CallsH.real {P : Program} {f : FuncId} {args : Array Value} {h : PH} {R : Value → PH → Prop} (hc : CallsH P f args h R) (hr : Rl h) : CallsH P f args h fun v h' => R v h' ∧ Rl h' := by
  rcases hc with ⟨h1, h2⟩ | hs
  · exact .inl ⟨h1, fun w hs => (h2 w hs).mono fun _ w' ⟨v, h', e, r, s, fr⟩ => ⟨v, h', e, ⟨r, w', s⟩, s, fr⟩⟩
  · exact .inr ((hs.real hr).mono fun n h' ⟨⟨v, e, hv⟩, hr'⟩ => ⟨v, e, hv, hr'⟩)
theorem NextH.real {P : Program} {n : Next} {h : PH} {k : Value → PH → Prop} (hn : NextH P n h k) (hr : Rl h) : NextH P n h fun v h' => k v h' ∧ Rl h' := by
  cases n <;> first
    | exact ⟨hn, hr⟩
    | exact fun w hs => Calls.mono (hn w hs) fun _ w' ⟨v, h', e, r, s, fr⟩ => ⟨v, h', e, ⟨r, w', s⟩, s, fr⟩
    | exact fun w hs => RoundIn.mono (hn w hs) fun _ w' ⟨v, h', e, r, s, fr⟩ => ⟨v, h', e, ⟨r, w', s⟩, s, fr⟩
    | exact hn.elim
theorem opV.real {P : Program} {o : Oper} {ρ : Env} {h : PH} {k : Value → PH → Prop} (ho : opV P o ρ h k) (hr : Rl h) : opV P o ρ h fun v h' => k v h' ∧ Rl h' := by
  unfold opV at *
  split at ho
  · split at ho
    · exact ⟨ho, hr⟩
    · exact ⟨ho, hr⟩
    · obtain ⟨v, e, hv⟩ := popO_iff.1 ho; exact popO_iff.2 ⟨v, e, hv, hr⟩
    · obtain ⟨v, e, hv⟩ := popO_iff.1 ho; exact popO_iff.2 ⟨v, e, hv, hr⟩
  · obtain ⟨v, e, hv⟩ := popO_iff.1 ho; exact popO_iff.2 ⟨v, e, hv, hr⟩
  · obtain ⟨x, e, hx⟩ := popO_iff.1 ho
    refine popO_iff.2 ⟨x, e, fun r hn => ?_⟩
    obtain ⟨v, e, hv⟩ := popO_iff.1 (hx r hn); exact popO_iff.2 ⟨v, e, hv, hr.set hn _⟩
  · split at ho
    · split at ho
      · exact ho.real hr
      · unfold callV at *
        split at ho
        · exact ho.real hr
        · split at ho
          · exact ho.real hr
          · exact (ho.real hr).mono fun _ _ hn => hn.1.real hn.2
          · exact ho.elim
        · exact (ho.real hr).mono fun _ _ hn => hn.1.real hn.2
        · exact ho.elim
    · exact ho.real hr
theorem opV.falls {P : Program} {o : Oper} {ρ : Env} {h : PH} (ho : opV P o ρ h fun _ _ => False) (hr : Rl h) : False := by
  obtain ⟨w, hs⟩ := hr
  obtain ⟨n, w', h', hrun, hn, hs', hf⟩ := ho.exec.sound hs
  cases n with
  | value v => exact hn
  | skip => exact hn
  | enter f args =>
    obtain ⟨e, w2, fr, ⟨v, h2, _, hF, _⟩, _⟩ := hn w' hs' []
    exact hF
  | round l f tmps assign body =>
    obtain ⟨e, w2, ⟨v, h2, _, hF, _⟩, _⟩ := (hn w' hs').2 default [] (room_wide _)
    exact hF
  | _ => exact hn.elim

theorem CallsH.frame {P : Program} {f : FuncId} {args : Array Value} {h : PH} {R : Value → PH → Prop} (r : Nat) (o : Obj) (hc : CallsH P f args h R) (hr : h r = none) :
    CallsH P f args (h.set r o) fun v h2 => ∃ h1 : PH, h2 = h1.set r o ∧ h1 r = none ∧ R v h1 := by
  rcases hc with ⟨hc1, hc2⟩ | hs
  rotate_left
  · exact .inr ((SemH.frame r o hs hr).mono fun n h2 ⟨h1, e, hn, v, ev, hv⟩ => ⟨v, ev, h1, e, hn, hv⟩)
  refine .inl ⟨hc1, fun w hs => ?_⟩
  have hsub : Sub h w := fun b u hb => hs b u (by unfold PH.set; rw [if_neg]; · exact hb
                                                  · rintro rfl; rw [hr] at hb; cases hb)
  have hw : w.heap[r]? = some o := hs r o (by unfold PH.set; rw [if_pos rfl])
  have hlt : r < w.heap.size := (Array.getElem?_eq_some_iff.1 hw).1
  refine (hc2 w hsub).mono fun e w' ⟨v, h1, he, hR, hs1, hf⟩ => ?_
  have hn := hf.none r hlt hr
  refine ⟨v, h1.set r o, he, ⟨h1, rfl, hn, hR⟩, fun b u hb => ?_, hf.os, hf.tape, hf.output, hf.drawn, hf.size, fun b hb hbn => ?_, fun b hb hbn => ?_⟩
  · unfold PH.set at hb
    split at hb
    · rename_i e; subst e; rw [hf.far b hlt hr, hw]; exact hb
    · exact hs1 b u hb
  · refine hf.far b hb ?_
    unfold PH.set at hbn
    split at hbn
    · cases hbn
    · exact hbn
  · unfold PH.set at hbn ⊢
    split at hbn
    · cases hbn
    · rename_i e; rw [if_neg e]; exact hf.none b hb hbn
theorem NextH.frame {P : Program} {n : Next} {h : PH} {k : Value → PH → Prop} (r : Nat) (o : Obj) (hn : NextH P n h k) (hr : h r = none) :
    NextH P n (h.set r o) fun v h2 => ∃ h1 : PH, h2 = h1.set r o ∧ h1 r = none ∧ k v h1 := by
  cases n with
  | value v => exact ⟨h, rfl, hr, hn⟩
  | skip => exact ⟨h, rfl, hr, hn⟩
  | enter f args =>
    intro w hs
    have hsub : Sub h w := fun b u hb => hs b u (by unfold PH.set; rw [if_neg]; · exact hb
                                                    · rintro rfl; rw [hr] at hb; cases hb)
    have hw : w.heap[r]? = some o := hs r o (by unfold PH.set; rw [if_pos rfl])
    have hlt : r < w.heap.size := (Array.getElem?_eq_some_iff.1 hw).1
    refine (hn w hsub).mono fun e w' ⟨v, h1, he, hR, hs1, hf⟩ => ?_
    have hn := hf.none r hlt hr
    refine ⟨v, h1.set r o, he, ⟨h1, rfl, hn, hR⟩, fun b u hb => ?_, hf.os, hf.tape, hf.output, hf.drawn, hf.size, fun b hb hbn => ?_, fun b hb hbn => ?_⟩
    · unfold PH.set at hb
      split at hb
      · rename_i e; subst e; rw [hf.far b hlt hr, hw]; exact hb
      · exact hs1 b u hb
    · refine hf.far b hb ?_
      unfold PH.set at hbn
      split at hbn
      · cases hbn
      · exact hbn
    · unfold PH.set at hbn ⊢
      split at hbn
      · cases hbn
      · rename_i e; rw [if_neg e]; exact hf.none b hb hbn
  | round l f tmps assign body =>
    intro w hs
    have hsub : Sub h w := fun b u hb => hs b u (by unfold PH.set; rw [if_neg]; · exact hb
                                                    · rintro rfl; rw [hr] at hb; cases hb)
    have hw : w.heap[r]? = some o := hs r o (by unfold PH.set; rw [if_pos rfl])
    have hlt : r < w.heap.size := (Array.getElem?_eq_some_iff.1 hw).1
    refine RoundIn.mono (hn w hsub) fun e w' ⟨v, h1, he, hR, hs1, hf⟩ => ?_
    have hn := hf.none r hlt hr
    refine ⟨v, h1.set r o, he, ⟨h1, rfl, hn, hR⟩, fun b u hb => ?_, hf.os, hf.tape, hf.output, hf.drawn, hf.size, fun b hb hbn => ?_, fun b hb hbn => ?_⟩
    · unfold PH.set at hb
      split at hb
      · rename_i e; subst e; rw [hf.far b hlt hr, hw]; exact hb
      · exact hs1 b u hb
    · refine hf.far b hb ?_
      unfold PH.set at hbn
      split at hbn
      · cases hbn
      · exact hbn
    · unfold PH.set at hbn ⊢
      split at hbn
      · cases hbn
      · rename_i e; rw [if_neg e]; exact hf.none b hb hbn
  | _ => exact hn.elim

/-- The four kinds. -/
def KP (T : Tr) : Prop := ∃ x : Option Value, ∀ h kv, T h kv ↔ popO x fun v => kv v h
def KR (T : Tr) : Prop := ∃ f : PH → Option Value, (∀ h kv, T h kv ↔ popO (f h) fun v => kv v h) ∧ ∀ h r o v, f h = some v → h r = none → f (h.set r o) = some v
def KA (T : Tr) : Prop := ∃ y : Option (Obj × (Nat → Option Value)), ∀ h kv, T h kv ↔ popO y fun x => ∀ r, h r = none → popO (x.2 r) fun v => kv v (h.set r x.1)
structure KE (T : Tr) : Prop where
  mono : ∀ {h : PH} {k k' : Value → PH → Prop}, T h k → (∀ v h, k v h → k' v h) → T h k'
  real : ∀ {h : PH} {k : Value → PH → Prop}, T h k → Rl h → T h fun v h' => k v h' ∧ Rl h'
  falls : ∀ {h : PH}, T h (fun _ _ => False) → Rl h → False
  frame : ∀ {h : PH} {k : Value → PH → Prop} (r : Nat) (o : Obj), T h k → h r = none → T (h.set r o) fun v h2 => ∃ h1 : PH, h2 = h1.set r o ∧ h1 r = none ∧ k v h1

theorem KP.ke {T : Tr} (hT : KP T) : KE T := by
  obtain ⟨x, hx⟩ := hT
  refine ⟨fun ht hk => ?_, fun ht hr => ?_, fun ht hr => ?_, fun r o ht hr => ?_⟩
  · obtain ⟨v, e, hv⟩ := popO_iff.1 ((hx _ _).1 ht); exact (hx _ _).2 (popO_iff.2 ⟨v, e, hk _ _ hv⟩)
  · obtain ⟨v, e, hv⟩ := popO_iff.1 ((hx _ _).1 ht); exact (hx _ _).2 (popO_iff.2 ⟨v, e, hv, hr⟩)
  · obtain ⟨v, e, hv⟩ := popO_iff.1 ((hx _ _).1 ht); exact hv
  · obtain ⟨v, e, hv⟩ := popO_iff.1 ((hx _ _).1 ht); exact (hx _ _).2 (popO_iff.2 ⟨v, e, _, rfl, hr, hv⟩)
theorem KR.ke {T : Tr} (hT : KR T) : KE T := by
  obtain ⟨f, hx, hm⟩ := hT
  refine ⟨fun ht hk => ?_, fun ht hr => ?_, fun ht hr => ?_, fun r o ht hr => ?_⟩
  · obtain ⟨v, e, hv⟩ := popO_iff.1 ((hx _ _).1 ht); exact (hx _ _).2 (popO_iff.2 ⟨v, e, hk _ _ hv⟩)
  · obtain ⟨v, e, hv⟩ := popO_iff.1 ((hx _ _).1 ht); exact (hx _ _).2 (popO_iff.2 ⟨v, e, hv, hr⟩)
  · obtain ⟨v, e, hv⟩ := popO_iff.1 ((hx _ _).1 ht); exact hv
  · obtain ⟨v, e, hv⟩ := popO_iff.1 ((hx _ _).1 ht); exact (hx _ _).2 (popO_iff.2 ⟨v, hm _ _ _ _ e hr, _, rfl, hr, hv⟩)

theorem set_set_ne {h : PH} {r r' : Nat} {o o' : Obj} (hne : r' ≠ r) : (h.set r o).set r' o' = (h.set r' o').set r o := by
  funext b; unfold PH.set
  by_cases e1 : b = r'
  · subst e1; simp [hne]
  · simp [e1]
theorem set_ne {h : PH} {r r' : Nat} {o : Obj} (hn : (h.set r o) r' = none) : r' ≠ r ∧ h r' = none := by
  unfold PH.set at hn
  split at hn
  · cases hn
  · rename_i e; exact ⟨e, hn⟩

/-- The obligations: what a step of the one must find again behind the other. 'ag' of the first, 'ah' of the second. -/
theorem swap_p {T U : Tr} (hT : KP T) (hU : KE U) {h : PH} {X : Value → Value → PH → Prop} (H : T h fun v h1 => U h1 fun u h2 => X v u h2) : U h fun u h1 => T h1 fun v h2 => X v u h2 := by
  obtain ⟨x, hx⟩ := hT
  obtain ⟨v, e, hv⟩ := popO_iff.1 ((hx _ _).1 H)
  exact hU.mono hv fun u h1 hX => (hx _ _).2 (popO_iff.2 ⟨v, e, hX⟩)
theorem swap_to_p {T U : Tr} (hT : KE T) (hU : KP U) {h : PH} (hr : Rl h) {X : Value → Value → PH → Prop} (H : T h fun v h1 => U h1 fun u h2 => X v u h2) : U h fun u h1 => T h1 fun v h2 => X v u h2 := by
  obtain ⟨x, hx⟩ := hU
  cases x with
  | none => exact (hT.falls (hT.mono H fun v h1 hh => by simpa [popO] using (hx _ _).1 hh) hr).elim
  | some u => exact (hx _ _).2 (popO_iff.2 ⟨u, rfl, hT.mono H fun v h1 hh => by simpa [popO] using (hx _ _).1 hh⟩)
theorem swap_rr {T U : Tr} (hT : KR T) (hU : KR U) {h : PH} {X : Value → Value → PH → Prop} (H : T h fun v h1 => U h1 fun u h2 => X v u h2) : U h fun u h1 => T h1 fun v h2 => X v u h2 := by
  obtain ⟨f, hx, _⟩ := hT
  obtain ⟨g, hy, _⟩ := hU
  obtain ⟨v, e, hv⟩ := popO_iff.1 ((hx _ _).1 H)
  obtain ⟨u, e', hu⟩ := popO_iff.1 ((hy _ _).1 hv)
  exact (hy _ _).2 (popO_iff.2 ⟨u, e', (hx _ _).2 (popO_iff.2 ⟨v, e, hu⟩)⟩)
theorem swap_ra {T U : Tr} (hT : KR T) (hU : KA U) {h : PH} {X : Value → Value → PH → Prop} (H : T h fun v h1 => U h1 fun u h2 => X v u h2) : U h fun u h1 => T h1 fun v h2 => X v u h2 := by
  obtain ⟨f, hx, hm⟩ := hT
  obtain ⟨y, hy⟩ := hU
  obtain ⟨v, e, hv⟩ := popO_iff.1 ((hx _ _).1 H)
  obtain ⟨z, e', hz⟩ := popO_iff.1 ((hy _ _).1 hv)
  refine (hy _ _).2 (popO_iff.2 ⟨z, e', fun r hr => ?_⟩)
  obtain ⟨u, e2, hu⟩ := popO_iff.1 (hz r hr)
  exact popO_iff.2 ⟨u, e2, (hx _ _).2 (popO_iff.2 ⟨v, hm _ _ _ _ e hr, hu⟩)⟩
theorem swap_re {T U : Tr} {f : PH → Option Value} (hx : ∀ h kv, T h kv ↔ popO (f h) fun v => kv v h) (hU : KE U) {h : PH} {X : Value → Value → PH → Prop}
    (H : T h fun v h1 => U h1 fun u h2 => f h2 = some v ∧ X v u h2) : U h fun u h1 => T h1 fun v h2 => X v u h2 := by
  obtain ⟨v, e, hv⟩ := popO_iff.1 ((hx _ _).1 H)
  exact hU.mono hv fun u h1 ⟨e', hX⟩ => (hx _ _).2 (popO_iff.2 ⟨v, e', hX⟩)
theorem swap_aa {T U : Tr} (hT : KA T) (hU : KA U) {h : PH} (hr : Rl h) {X : Value → Value → PH → Prop} (H : T h fun v h1 => U h1 fun u h2 => X v u h2) : U h fun u h1 => T h1 fun v h2 => X v u h2 := by
  obtain ⟨x, hx⟩ := hT
  obtain ⟨y, hy⟩ := hU
  obtain ⟨z, e, hz⟩ := popO_iff.1 ((hx _ _).1 H)
  have hy' : ∃ z', y = some z' := by
    obtain ⟨r, hn⟩ := hr.fresh
    obtain ⟨v, _, hv⟩ := popO_iff.1 (hz r hn)
    obtain ⟨z', e', _⟩ := popO_iff.1 ((hy _ _).1 hv)
    exact ⟨z', e'⟩
  obtain ⟨z', e'⟩ := hy'
  -- both values are there, whatever the blocks
  have both : ∀ r r', h r = none → h r' = none → r' ≠ r → ∃ v u, z.2 r = some v ∧ z'.2 r' = some u ∧ X v u ((h.set r z.1).set r' z'.1) := by
    intro r r' hn hn' hne
    obtain ⟨v, e1, hv⟩ := popO_iff.1 (hz r hn)
    obtain ⟨z2, e2, hz2⟩ := popO_iff.1 ((hy _ _).1 hv)
    rw [e'] at e2; cases e2
    obtain ⟨u, e3, hu⟩ := popO_iff.1 (hz2 r' (by unfold PH.set; rw [if_neg hne]; exact hn'))
    exact ⟨v, u, e1, e3, hu⟩
  refine (hy _ _).2 (popO_iff.2 ⟨z', e', fun r' hn' => ?_⟩)
  have hu : ∃ u, z'.2 r' = some u := by
    obtain ⟨r, hn⟩ := (hr.set hn' z'.1).fresh
    obtain ⟨hne, hn⟩ := set_ne hn
    obtain ⟨v, u, _, eu, _⟩ := both r r' hn hn' (Ne.symm hne)
    exact ⟨u, eu⟩
  obtain ⟨u, eu⟩ := hu
  refine popO_iff.2 ⟨u, eu, (hx _ _).2 (popO_iff.2 ⟨z, e, fun r hn => ?_⟩)⟩
  obtain ⟨hne, hn⟩ := set_ne hn
  obtain ⟨v, u', ev', eu', hX⟩ := both r r' hn hn' (Ne.symm hne)
  rw [eu] at eu'; cases eu'
  refine popO_iff.2 ⟨v, ev', ?_⟩
  rw [← set_set_ne (Ne.symm hne)]; exact hX
theorem swap_ea {T U : Tr} (hT : KE T) (hU : KA U) {h : PH} (hr : Rl h) {X : Value → Value → PH → Prop} (H : T h fun v h1 => U h1 fun u h2 => X v u h2) : U h fun u h1 => T h1 fun v h2 => X v u h2 := by
  obtain ⟨y, hy⟩ := hU
  have hy' : ∃ z', y = some z' := by
    cases y with
    | some z' => exact ⟨z', rfl⟩
    | none => exact (hT.falls (hT.mono H fun v h1 hh => by simpa [popO] using (hy _ _).1 hh) hr).elim
  obtain ⟨z, e⟩ := hy'
  refine (hy _ _).2 (popO_iff.2 ⟨z, e, fun r hn => ?_⟩)
  have hf := hT.frame r z.1 H hn
  have hf2 : T (h.set r z.1) fun v h2 => popO (z.2 r) fun u => X v u h2 := hT.mono hf fun v h2 ⟨h1, e1, hn1, hh⟩ => by
    obtain ⟨z2, e2, hz2⟩ := popO_iff.1 ((hy _ _).1 hh)
    rw [e] at e2; cases e2
    rw [e1]; exact hz2 r hn1
  cases hu : z.2 r with
  | none =>
    rw [hu] at hf2
    exact (hT.falls hf2 (hr.set hn z.1)).elim
  | some u =>
    rw [hu] at hf2
    exact hf2
end Go.Proofs.YtllopddcpkhfjaaDoor
