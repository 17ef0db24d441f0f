/- A region that draws its order, continued: from one order to whichever is drawn. -/
import Derived.Test.YtllopddcpkhfjaaDoorHDraw
set_option linter.unusedSimpArgs false
set_option linter.unusedVariables false
namespace Go.Proofs.YtllopddcpkhfjaaDoor
open Go

theorem upd_upd_ne {ρ : Env} {x y : Option Tmp} {v u : Value} (h : ∀ d, x = some d → y ≠ some d) : upd (upd ρ x v) y u = upd (upd ρ y u) x v := by
  cases x with
  | none => rfl
  | some d =>
    cases y with
    | none => rfl
    | some e =>
      have hne : d ≠ e := fun he => h d rfl (he ▸ rfl)
      funext t
      simp only [upd]
      by_cases h1 : t = d
      · subst h1; simp [hne]
      · simp [h1]
theorem ev_upd {ρ : Env} {d : Option Tmp} {v : Value} {x : Operand} (h : ∀ t, d = some t → x ≠ .tmp t) : ev (upd ρ d v) x = ev ρ x := by
  cases d with
  | none => rfl
  | some t =>
    cases x with
    | tmp s =>
      have : s ≠ t := fun e => h t rfl (e ▸ rfl)
      simp [ev, upd, this]
    | _ => rfl

theorem semOf_congr {ρ ρ' : Env} (o : Oper) (h : ∀ x ∈ o.op.operands, ev ρ x = ev ρ' x) : semOf ρ o = semOf ρ' o := by
  obtain ⟨dst, op, type, pos, after, guard⟩ := o
  have pairs : ∀ ps : Array (Nat × Operand), (∀ x ∈ ps.map (·.2), ev ρ x = ev ρ' x) →
      (ps.map fun (i, x) => (i, ev ρ x)) = (ps.map fun (i, x) => (i, ev ρ' x)) := fun ps hp =>
    Array.map_congr_left fun p hm => by
      obtain ⟨i, x⟩ := p
      simp only [hp x (Array.mem_map.2 ⟨(i, x), hm, rfl⟩)]
  cases op <;> simp only [Op.operands] at h <;> simp only [semOf]
  case build t ps => rw [pairs ps fun x hx => h x (by simpa using hx)]
  case buildSlice t n ps => rw [pairs ps fun x hx => h x (by simpa using hx)]
  case makeFunc fn first captured =>
    rw [Array.map_congr_left (xs := first) fun x hx => h x (by simp [hx]), Array.map_congr_left (xs := captured) fun x hx => h x (by simp [hx])]
  case call c =>
    have hargs : c.args.map (ev ρ) = c.args.map (ev ρ') := Array.map_congr_left fun x hx => h x (by simp [Call.operands, hx])
    rw [hargs]
  case makeMap t r => cases r <;> simp_all
  case slice t x lo hi mx => cases lo <;> cases hi <;> cases mx <;> simp_all
  all_goals (first | rfl | (simp_all; done))
theorem callV_congr {P : Program} {ρ ρ' : Env} (c : Call) (h : ∀ x ∈ c.operands, ev ρ x = ev ρ' x) : callV P c ρ = callV P c ρ' := by
  have hargs : c.args.map (ev ρ) = c.args.map (ev ρ') := Array.map_congr_left fun x hx => h x (by simp [Call.operands, hx])
  funext hh kv
  unfold callV
  rw [hargs]
  cases hc : c.callee with
  | value f =>
    have hf : ev ρ f = ev ρ' f := h f (by simp [Call.operands, hc])
    cases f <;> simp only [hf]
  | invoke r m => have hr : ev ρ r = ev ρ' r := h r (by simp [Call.operands, hc]); simp only [hr]
  | builtin b => rfl
theorem opV_congr {P : Program} {ρ ρ' : Env} (o : Oper) (h : ∀ x ∈ o.op.operands, ev ρ x = ev ρ' x) : opV P o ρ = opV P o ρ' := by
  have hs := semOf_congr o h
  funext hh kv
  unfold opV
  rw [hs]
  cases hop : o.op
  case move x => have hx := h x (by simp [hop, Op.operands]); simp only [clsOf, hx]
  case assign x => have hx := h x (by simp [hop, Op.operands]); simp only [clsOf, hx]
  case pick c a b =>
    have h1 := h c (by simp [hop, Op.operands]); have h2 := h a (by simp [hop, Op.operands]); have h3 := h b (by simp [hop, Op.operands])
    simp only [clsOf, h1, h2, h3]
  case call c =>
    have hc := callV_congr (P := P) c fun x hx => h x (by simp only [hop, Op.operands]; exact hx)
    simp only [hc]
  all_goals rfl
theorem looks_operands {ops : Array Oper} {o : Oper} {d : Tmp} (h : d ∉ o.looksAt ops) : ∀ x ∈ o.op.operands, x ≠ .tmp d := by
  intro x hx e
  subst e
  exact h (List.mem_append_left _ (List.mem_filterMap.2 ⟨.tmp d, by simpa using hx, rfl⟩))
theorem yieldH_upd {ops : Array Oper} {o : Oper} {ρ : Env} {dst : Option Tmp} {v : Value} {g : Nat} {want : Bool} (hg : o.guard = some (g, want)) (h : ∀ d, dst = some d → d ∉ o.looksAt ops) :
    yieldH ops (upd ρ dst v) g = yieldH ops ρ g := by
  cases dst with
  | none => rfl
  | some d =>
    unfold yieldH
    cases ht : (ops[g]?).bind (·.dst) with
    | none => rfl
    | some t =>
      have hne : t ≠ d := fun e => h d rfl (by subst e; simp [Oper.looksAt, hg, ht])
      simp only [upd, if_neg hne]
theorem semOf_upd {ops : Array Oper} {o : Oper} {ρ : Env} {dst : Option Tmp} {v : Value} (h : ∀ d, dst = some d → d ∉ o.looksAt ops) : semOf (upd ρ dst v) o = semOf ρ o :=
  semOf_congr o fun x hx => ev_upd fun t ht => looks_operands (h t ht) x hx
theorem stepV_upd {P : Program} {ops : Array Oper} {o : Oper} {ρ : Env} {dst : Option Tmp} {v : Value} (h : ∀ d, dst = some d → d ∉ o.looksAt ops) : stepV P ops o (upd ρ dst v) = stepV P ops o ρ := by
  have ho : opV P o (upd ρ dst v) = opV P o ρ := opV_congr o fun x hx => ev_upd fun t ht => looks_operands (h t ht) x hx
  funext hh kv
  unfold stepV
  cases hg : o.guard with
  | none => simp only [ho]
  | some gw =>
    obtain ⟨g, want⟩ := gw
    simp only [ho, yieldH_upd (v := v) hg h]

theorem h_set_mk {h : PH} {r r' : Nat} {o o' : Obj} {k : Value → PH → Prop} {v : Value} (hne : r' ≠ r) (hr : h r = none) (hk : k v (h.set r' o')) :
    ∃ h1 : PH, (h.set r o).set r' o' = h1.set r o ∧ h1 r = none ∧ k v h1 :=
  ⟨h.set r' o', set_set_ne hne, by unfold PH.set; rw [if_neg (Ne.symm hne)]; exact hr, hk⟩

/-! ### The kinds -/
def wantH (ops : Array Oper) (o : Oper) (ρ : Env) : Bool := match o.guard with
  | none => true
  | some (g, want) => yieldH ops ρ g == some want
theorem stepV_eq {P : Program} {ops : Array Oper} {o : Oper} {ρ : Env} {h : PH} {kv : Value → PH → Prop} : stepV P ops o ρ h kv ↔ if wantH ops o ρ then opV P o ρ h kv else kv undef h := by
  unfold stepV wantH gopV
  cases hg : o.guard with
  | none => simp
  | some gw => obtain ⟨g, want⟩ := gw; simp
theorem kp_of {P : Program} {ops : Array Oper} {o : Oper} {ρ : Env} (hc : clsOf P o.op = .p) : KP (stepV P ops o ρ) := by
  cases hw : wantH ops o ρ with
  | false => exact ⟨some undef, fun h kv => by rw [stepV_eq, hw]; simp [popO]⟩
  | true =>
    have : ∃ x : Option Value, ∀ h kv, opV P o ρ h kv ↔ popO x fun v => kv v h := by
      unfold opV
      simp only [hc]
      split
      · rename_i x _; exact ⟨some (ev ρ x), fun h kv => Iff.rfl⟩
      · rename_i x _; exact ⟨some (ev ρ x), fun h kv => Iff.rfl⟩
      · rename_i c a b _; exact ⟨_, fun h kv => Iff.rfl⟩
      · exact ⟨_, fun h kv => Iff.rfl⟩
    obtain ⟨x, hx⟩ := this
    exact ⟨x, fun h kv => by rw [stepV_eq, hw]; simpa using hx h kv⟩
def readH (P : Program) (ops : Array Oper) (o : Oper) (ρ : Env) (h : PH) : Option Value := if wantH ops o ρ then SemE P h (semOf ρ o) else some undef
theorem stepV_r {P : Program} {ops : Array Oper} {o : Oper} {ρ : Env} (hc : clsOf P o.op = .r) (h : PH) (kv : Value → PH → Prop) : stepV P ops o ρ h kv ↔ popO (readH P ops o ρ h) fun v => kv v h := by
  rw [stepV_eq]
  unfold readH opV
  cases hw : wantH ops o ρ <;> simp [hc, popO]
theorem kr_of {P : Program} {ops : Array Oper} {o : Oper} {ρ : Env} (hc : clsOf P o.op = .r) : KR (stepV P ops o ρ) :=
  ⟨readH P ops o ρ, fun h kv => stepV_r hc h kv, fun h r b v hv hr => by
    unfold readH at *
    split at hv
    · rename_i e; rw [if_pos e]; exact SemE.set hv hr
    · rename_i e; rw [if_neg e]; exact hv⟩
theorem ka_of {P : Program} {ops : Array Oper} {o : Oper} {ρ : Env} (hc : clsOf P o.op = .a) : KA (stepV P ops o ρ) ∨ KP (stepV P ops o ρ) := by
  cases hw : wantH ops o ρ with
  | false => exact .inr ⟨some undef, fun h kv => by rw [stepV_eq, hw]; simp [popO]⟩
  | true =>
    refine .inl ⟨(SemA P (semOf ρ o)).map fun x => (x.1, fun r => SemP P (x.2 r)), fun h kv => ?_⟩
    rw [stepV_eq, hw]
    unfold opV
    simp only [hc, if_true]
    cases SemA P (semOf ρ o) <;> simp [popO]
theorem ke_of {P : Program} {ops : Array Oper} {o : Oper} {ρ : Env} (hc : clsOf P o.op = .e) : KE (stepV P ops o ρ) := by
  have hframe : ∀ {h : PH} {k : Value → PH → Prop} (r : Nat) (b : Obj), opV P o ρ h k → h r = none → opV P o ρ (h.set r b) fun v h2 => ∃ h1 : PH, h2 = h1.set r b ∧ h1 r = none ∧ k v h1 := by
    intro h k r b ho hr
    unfold opV at *
    simp only [hc] at ho ⊢
    split at ho
    · split at ho
      · exact ho.frame r b hr
      · unfold callV at *
        split at ho
        · exact ho.frame r b hr
        · split at ho
          · exact ho.frame r b hr
          · exact (ho.frame r b hr).mono fun n h2 ⟨h1, e, hn, hh⟩ => e ▸ hh.frame r b hn
          · exact ho.elim
        · exact (ho.frame r b hr).mono fun n h2 ⟨h1, e, hn, hh⟩ => e ▸ hh.frame r b hn
        · exact ho.elim
    · exact ho.frame r b hr
  refine ⟨fun ht hk => ?_, fun ht hr => ?_, fun ht hr => ?_, fun r b ht hr => ?_⟩
  · exact stepV.mono hk ht
  · rw [stepV_eq] at ht ⊢
    split at ht
    · rename_i e; rw [if_pos e]; exact ht.real hr
    · rename_i e; rw [if_neg e]; exact ⟨ht, hr⟩
  · rw [stepV_eq] at ht
    split at ht
    · exact ht.falls hr
    · exact ht
  · rw [stepV_eq] at ht ⊢
    split at ht
    · rename_i e; rw [if_pos e]; exact hframe r b ht hr
    · rename_i e; rw [if_neg e]; exact ⟨_, rfl, hr, ht⟩
theorem ke_any {P : Program} {ops : Array Oper} {o : Oper} {ρ : Env} : KE (stepV P ops o ρ) := by
  cases hc : clsOf P o.op with
  | p => exact (kp_of hc).ke
  | r => exact (kr_of hc).ke
  | e => exact ke_of hc
  | a =>
    refine ⟨fun ht hk => stepV.mono hk ht, fun ht hr => ?_, fun ht hr => ?_, fun r b ht hr => ?_⟩
    · rw [stepV_eq] at ht ⊢
      split at ht
      · rename_i e; rw [if_pos e]; exact ht.real hr
      · rename_i e; rw [if_neg e]; exact ⟨ht, hr⟩
    · rw [stepV_eq] at ht
      split at ht
      · exact ht.falls hr
      · exact ht
    · rcases ka_of (P := P) (ops := ops) (ρ := ρ) hc with ⟨y, hy⟩ | hp
      · obtain ⟨x, e, hx⟩ := popO_iff.1 ((hy _ _).1 ht)
        refine (hy _ _).2 (popO_iff.2 ⟨x, e, fun r' hr' => ?_⟩)
        obtain ⟨hne, hn'⟩ := set_ne hr'
        obtain ⟨v, e2, hv⟩ := popO_iff.1 (hx r' hn')
        refine popO_iff.2 ⟨v, e2, h_set_mk hne hr hv⟩
      · exact hp.ke.frame r b ht hr

/-! ### Orders -/
def bit (b : Array Nat) (y x : Nat) : Bool := (b.getD y 0).testBit x
def pairOk : Cls → Cls → Bool
  | .p, _ | _, .p => true
  | .r, _ => true
  | .a, .a => true
  | .e, .a => true
  | _, _ => false
/-- What a look found is found again. -/
def foundH (P : Program) (ops : Array Oper) (o : Oper) (ρ : Env) (h : PH) : Prop := wantH ops o ρ = true → SemE P h (semOf ρ o) = o.dst.map ρ
/-- Behind a step that acts: what was looked at ahead of it, and might as well be looked at behind it. -/
def AG (P : Program) (ops : Array Oper) (b : Array Nat) (i : Nat) (rem : List Nat) (ρ : Env) (h : PH) : Prop :=
  ∀ oi, ops[i]? = some oi → clsOf P oi.op = .e → ∀ x ox, ops[x]? = some ox → clsOf P ox.op = .r → x ∉ rem → x ≠ i → bit b i x = false → foundH P ops ox ρ h
def anyH (P : Program) (ops : Array Oper) (b : Array Nat) (k : Env → PH → Prop) : Nat → List Nat → Env → PH → Prop
  | 0, _, ρ, h => k ρ h
  | n + 1, rem, ρ, h => ∀ i ∈ rem, (∀ x ∈ rem, bit b i x = false) → ∃ o, ops[i]? = some o ∧ stepV P ops o ρ h fun v h' => AG P ops b i rem (upd ρ o.dst v) h' ∧ anyH P ops b k n (rem.erase i) (upd ρ o.dst v) h'

/-- What is looked up once for a region. -/
structure Laid (P : Program) (ops : Array Oper) (b : Array Nat) : Prop where
  apart : ∀ (x y : Nat) (ox oy : Oper), ops[x]? = some ox → ops[y]? = some oy → x ≠ y → bit b x y = false → bit b y x = false → ox.apart ops oy = true
  look : ∀ (x y : Nat) (ox oy : Oper), ops[x]? = some ox → ops[y]? = some oy → clsOf P ox.op = .r → (x ≠ y → bit b x y = false) → ∀ d, oy.dst = some d → d ∉ ox.looksAt ops
  own : ∀ (x : Nat) (ox : Oper), ops[x]? = some ox → clsOf P ox.op = .r → ox.dst.isSome = true
  one : ∀ (x y : Nat) (ox oy : Oper), ops[x]? = some ox → ops[y]? = some oy → clsOf P ox.op = .r → x ≠ y → ∀ d, oy.dst = some d → ox.dst ≠ some d

theorem foundH_upd {P : Program} {ops : Array Oper} {o : Oper} {ρ : Env} {h : PH} {dst : Option Tmp} {v : Value} (hl : ∀ d, dst = some d → d ∉ o.looksAt ops) (hd : ∀ d, dst = some d → o.dst ≠ some d) :
    foundH P ops o (upd ρ dst v) h ↔ foundH P ops o ρ h := by
  have h1 : wantH ops o (upd ρ dst v) = wantH ops o ρ := by
    unfold wantH
    cases hg : o.guard with
    | none => rfl
    | some gw => obtain ⟨g, want⟩ := gw; simp only [yieldH_upd (v := v) hg hl]
  have h2 : o.dst.map (upd ρ dst v) = o.dst.map ρ := by
    cases ho : o.dst with
    | none => rfl
    | some t =>
      cases dst with
      | none => rfl
      | some d =>
        have hne : t ≠ d := fun e => hd d rfl (e ▸ ho)
        simp [upd, hne]
  unfold foundH
  rw [h1, h2, semOf_upd hl]
theorem foundH_set {P : Program} {ops : Array Oper} {o : Oper} {ρ : Env} {h : PH} {r : Nat} {b : Obj} (hs : o.dst.isSome = true) (hf : foundH P ops o ρ h) (hr : h r = none) : foundH P ops o ρ (h.set r b) := by
  intro hw
  have := hf hw
  obtain ⟨d, hd⟩ := Option.isSome_iff_exists.1 hs
  rw [hd] at this ⊢
  exact SemE.set this hr

theorem takeFirst {P : Program} {ops : Array Oper} {b : Array Nat} {k : Env → PH → Prop} (L : Laid P ops b) {i : Nat} {oi : Oper} (hi : ops[i]? = some oi) :
    ∀ (n : Nat) (rem : List Nat) (ρ : Env) (h : PH), rem.length = n + 1 → rem.Nodup → (∀ y, y ∉ rem → ∀ x ∈ rem, bit b y x = false) → Rl h → i ∈ rem → (∀ x ∈ rem, bit b i x = false) →
      (∀ j oj, j ∈ rem → j ≠ i → ops[j]? = some oj → bit b j i = false → pairOk (clsOf P oi.op) (clsOf P oj.op) = true) →
      (stepV P ops oi ρ h fun v h' => AG P ops b i rem (upd ρ oi.dst v) h' ∧ anyH P ops b k n (rem.erase i) (upd ρ oi.dst v) h') → anyH P ops b k (n + 1) rem ρ h := by
  intro n
  induction n with
  | zero =>
    intro rem ρ h hlen hnd hdc hr hmem hrdy hpair H j hj hjr
    obtain ⟨a, rfl⟩ := List.length_eq_one_iff.1 hlen
    simp only [List.mem_singleton] at hj hmem
    subst hj; subst hmem
    exact ⟨oi, hi, H⟩
  | succ n ih =>
    intro rem ρ h hlen hnd hdc hr hmem hrdy hpair H j hj hjr
    by_cases hji : j = i
    · subst hji; exact ⟨oi, hi, H⟩
    have hmemj : j ∈ rem.erase i := (List.mem_erase_of_ne hji).2 hj
    have hmemi : i ∈ rem.erase j := (List.mem_erase_of_ne (Ne.symm hji)).2 hmem
    have hbji : bit b j i = false := hjr i hmem
    have hbij : bit b i j = false := hrdy j hj
    -- the other one is there
    have hoj : ∃ oj, ops[j]? = some oj := by
      have hke : KE (stepV P ops oi ρ) := ke_any
      cases hx : ops[j]? with
      | some oj => exact ⟨oj, rfl⟩
      | none =>
        refine (hke.falls (hke.mono H fun v h' hh => ?_) hr).elim
        obtain ⟨o, ho, _⟩ := hh.2 j hmemj (fun x hx' => hjr x (List.mem_of_mem_erase hx'))
        rw [hx] at ho; cases ho
    obtain ⟨oj, hoj⟩ := hoj
    refine ⟨oj, hoj, ?_⟩
    have hap := Oper.apart_spec (L.apart i j oi oj hi hoj (Ne.symm hji) hbij hbji)
    have hp := hpair j oj hj hji hoj hbji
    have eT : ∀ u, stepV P ops oi (upd ρ oj.dst u) = stepV P ops oi ρ := fun u => stepV_upd hap.2.2
    have eU : ∀ v, stepV P ops oj (upd ρ oi.dst v) = stepV P ops oj ρ := fun v => stepV_upd hap.1
    have eC : ∀ v u, upd (upd ρ oi.dst v) oj.dst u = upd (upd ρ oj.dst u) oi.dst v := fun v u => upd_upd_ne hap.2.1
    have eE : (rem.erase i).erase j = (rem.erase j).erase i := List.erase_comm i j
    have keT : KE (stepV P ops oi ρ) := ke_any
    have keU : KE (stepV P ops oj ρ) := ke_any
    -- as it stands
    have H1 : stepV P ops oi ρ h fun v h1 => AG P ops b i rem (upd ρ oi.dst v) h1 ∧ stepV P ops oj ρ h1 fun u h2 =>
        AG P ops b j (rem.erase i) (upd (upd ρ oj.dst u) oi.dst v) h2 ∧ anyH P ops b k n ((rem.erase j).erase i) (upd (upd ρ oj.dst u) oi.dst v) h2 := by
      refine keT.mono H fun v h1 hh => ⟨hh.1, ?_⟩
      obtain ⟨o, ho, hstep⟩ := hh.2 j hmemj (fun x hx' => hjr x (List.mem_of_mem_erase hx'))
      rw [hoj] at ho; cases ho
      rw [eU v] at hstep
      refine keU.mono hstep fun u h2 hx => ?_
      rw [eC, eE] at hx
      exact hx
    -- a look of before
    have early : ∀ x ox, ops[x]? = some ox → clsOf P ox.op = .r → x ∉ rem → (∀ d, oi.dst = some d → d ∉ ox.looksAt ops) ∧ (∀ d, oi.dst = some d → ox.dst ≠ some d) ∧ (∀ d, oj.dst = some d → d ∉ ox.looksAt ops) ∧ (∀ d, oj.dst = some d → ox.dst ≠ some d) := by
      intro x ox hox hcx hx
      have nxi : x ≠ i := fun e => hx (e ▸ hmem)
      have nxj : x ≠ j := fun e => hx (e ▸ hj)
      exact ⟨L.look x i ox oi hox hi hcx (fun _ => hdc x hx i hmem), L.one x i ox oi hox hi hcx nxi, L.look x j ox oj hox hoj hcx (fun _ => hdc x hx j hj), L.one x j ox oj hox hoj hcx nxj⟩
    -- what is wanted
    have W : stepV P ops oj ρ h fun u h1 => AG P ops b j rem (upd ρ oj.dst u) h1 ∧ stepV P ops oi ρ h1 fun v h2 =>
        AG P ops b i (rem.erase j) (upd (upd ρ oj.dst u) oi.dst v) h2 ∧ anyH P ops b k n ((rem.erase j).erase i) (upd (upd ρ oj.dst u) oi.dst v) h2 := by
      have agI : ∀ v u h1, (clsOf P oj.op = .p ∨ clsOf P oj.op = .a) → AG P ops b i rem (upd ρ oi.dst v) h1 → AG P ops b i (rem.erase j) (upd (upd ρ oj.dst u) oi.dst v) h1 := by
        intro v u h1 hcj hag oi' hi' hce x ox hox hcx hx hxi hb
        have hxr : x ∉ rem := fun hm => by
          by_cases e : x = j
          · subst e; rw [hoj] at hox; cases hox; rcases hcj with hcj | hcj <;> rw [hcj] at hcx <;> cases hcx
          · exact hx ((List.mem_erase_of_ne e).2 hm)
        obtain ⟨_, _, l2, d2⟩ := early x ox hox hcx hxr
        rw [← eC, foundH_upd l2 d2]
        exact hag oi' hi' hce x ox hox hcx hxr hxi hb
      have agI0 : clsOf P oi.op ≠ .e → ∀ rem ρ h, AG P ops b i rem ρ h := fun hc rem ρ h oi' hi' hce => by rw [hi] at hi'; cases hi'; exact absurd hce hc
      have agJ0 : clsOf P oj.op ≠ .e → ∀ rem ρ h, AG P ops b j rem ρ h := fun hc rem ρ h oj' hj' hce => by rw [hoj] at hj'; cases hj'; exact absurd hce hc
      -- from behind both to behind the second alone
      have agJ : ∀ v u h2, AG P ops b j (rem.erase i) (upd (upd ρ oj.dst u) oi.dst v) h2 → AG P ops b j rem (upd ρ oj.dst u) h2 := by
        intro v u h2 hag oj' hj' hce x ox hox hcx hx hxj hb
        obtain ⟨l1, d1, _, _⟩ := early x ox hox hcx hx
        have := hag oj' hj' hce x ox hox hcx (fun hm => hx (List.mem_of_mem_erase hm)) hxj hb
        rwa [foundH_upd l1 d1] at this
      cases ci : clsOf P oi.op with
      | p =>
        have hne : clsOf P oi.op ≠ .e := by rw [ci]; intro h; cases h
        obtain ⟨x, hx⟩ := kp_of (ops := ops) (ρ := ρ) ci
        obtain ⟨v, e, hv⟩ := popO_iff.1 ((hx _ _).1 H1)
        exact keU.mono hv.2 fun u h2 hh => ⟨agJ v u h2 hh.1, (hx _ _).2 (popO_iff.2 ⟨v, e, agI0 hne _ _ _, hh.2⟩)⟩
      | r =>
        have hne : clsOf P oi.op ≠ .e := by rw [ci]; intro h; cases h
        have hx := fun h kv => stepV_r (P := P) (ops := ops) (ρ := ρ) ci h kv
        obtain ⟨v, e, hv⟩ := popO_iff.1 ((hx _ _).1 H1)
        by_cases cj : clsOf P oj.op = .e
        · refine keU.mono hv.2 fun u h2 hh => ⟨agJ v u h2 hh.1, (hx _ _).2 (popO_iff.2 ⟨v, ?_, agI0 hne _ _ _, hh.2⟩)⟩
          have hf := hh.1 oj hoj cj i oi hi ci (fun hm => (List.Nodup.mem_erase_iff hnd).1 hm |>.1 rfl) (Ne.symm hji) hbji
          have hself := L.look i i oi oi hi hi ci (fun e => absurd rfl e)
          have hjl := hap.2.2
          unfold readH at e ⊢
          split at e
          · rename_i hw
            rw [if_pos hw]
            obtain ⟨d, hd⟩ := Option.isSome_iff_exists.1 (L.own i oi hi ci)
            have hw2 : wantH ops oi (upd (upd ρ oj.dst u) oi.dst v) = true := by
              unfold wantH at hw ⊢
              cases hg : oi.guard with
              | none => rfl
              | some gw => obtain ⟨g, want⟩ := gw; simp only [hg] at hw; simp only [yieldH_upd hg hself, yieldH_upd hg hjl]; exact hw
            have := hf hw2
            rw [semOf_upd hself, semOf_upd hjl, hd] at this
            simpa [upd] using this
          · rename_i hw; rw [if_neg hw]; exact e
        · cases cj' : clsOf P oj.op with
          | e => exact absurd cj' cj
          | p =>
            obtain ⟨y, hy⟩ := kp_of (ops := ops) (ρ := ρ) cj'
            obtain ⟨u, e', hu⟩ := popO_iff.1 ((hy _ _).1 hv.2)
            exact (hy _ _).2 (popO_iff.2 ⟨u, e', agJ0 cj _ _ _, (hx _ _).2 (popO_iff.2 ⟨v, e, agI0 hne _ _ _, hu.2⟩)⟩)
          | r =>
            have hy := fun h kv => stepV_r (P := P) (ops := ops) (ρ := ρ) cj' h kv
            obtain ⟨u, e', hu⟩ := popO_iff.1 ((hy _ _).1 hv.2)
            exact (hy _ _).2 (popO_iff.2 ⟨u, e', agJ0 cj _ _ _, (hx _ _).2 (popO_iff.2 ⟨v, e, agI0 hne _ _ _, hu.2⟩)⟩)
          | a =>
            have H2 : stepV P ops oi ρ h fun v h1 => stepV P ops oj ρ h1 fun u h2 => anyH P ops b k n ((rem.erase j).erase i) (upd (upd ρ oj.dst u) oi.dst v) h2 :=
              keT.mono H1 fun v h1 hh => keU.mono hh.2 fun u h2 h3 => h3.2
            have H3 : stepV P ops oj ρ h fun u h1 => stepV P ops oi ρ h1 fun v h2 => anyH P ops b k n ((rem.erase j).erase i) (upd (upd ρ oj.dst u) oi.dst v) h2 := by
              rcases ka_of (P := P) (ops := ops) (ρ := ρ) cj' with ha | hp'
              · exact swap_ra (kr_of ci) ha H2
              · exact swap_to_p keT hp' hr H2
            exact keU.mono H3 fun u h1 hh => ⟨agJ0 cj _ _ _, keT.mono hh fun v h2 h3 => ⟨agI0 hne _ _ _, h3⟩⟩
      | a =>
        have hne : clsOf P oi.op ≠ .e := by rw [ci]; intro h; cases h
        have cj : clsOf P oj.op ≠ .e := by intro hc; rw [ci, hc] at hp; cases hp
        have H2 : stepV P ops oi ρ h fun v h1 => stepV P ops oj ρ h1 fun u h2 => anyH P ops b k n ((rem.erase j).erase i) (upd (upd ρ oj.dst u) oi.dst v) h2 :=
          keT.mono H1 fun v h1 hh => keU.mono hh.2 fun u h2 h3 => h3.2
        have H3 : stepV P ops oj ρ h fun u h1 => stepV P ops oi ρ h1 fun v h2 => anyH P ops b k n ((rem.erase j).erase i) (upd (upd ρ oj.dst u) oi.dst v) h2 := by
          cases cj' : clsOf P oj.op with
          | e => exact absurd cj' cj
          | p => exact swap_to_p keT (kp_of cj') hr H2
          | r => rw [ci, cj'] at hp; cases hp
          | a =>
            rcases ka_of (P := P) (ops := ops) (ρ := ρ) ci with hti | hti
            · rcases ka_of (P := P) (ops := ops) (ρ := ρ) cj' with ha | hp'
              · exact swap_aa hti ha hr H2
              · exact swap_to_p keT hp' hr H2
            · exact swap_p hti keU H2
        exact keU.mono H3 fun u h1 hh => ⟨agJ0 cj _ _ _, keT.mono hh fun v h2 h3 => ⟨agI0 hne _ _ _, h3⟩⟩
      | e =>
        have cj : clsOf P oj.op = .p ∨ clsOf P oj.op = .a := by
          cases cj' : clsOf P oj.op with
          | p => exact .inl rfl
          | a => exact .inr rfl
          | r => rw [ci, cj'] at hp; cases hp
          | e => rw [ci, cj'] at hp; cases hp
        have cj0 : clsOf P oj.op ≠ .e := by rcases cj with cj | cj <;> rw [cj] <;> intro h <;> cases h
        have H2 : stepV P ops oi ρ h fun v h1 => stepV P ops oj ρ h1 fun u h2 => AG P ops b i (rem.erase j) (upd (upd ρ oj.dst u) oi.dst v) h2 ∧ anyH P ops b k n ((rem.erase j).erase i) (upd (upd ρ oj.dst u) oi.dst v) h2 := by
          refine keT.mono H1 fun v h1 hh => ?_
          have kp : KP (stepV P ops oj ρ) → stepV P ops oj ρ h1 fun u h2 => AG P ops b i (rem.erase j) (upd (upd ρ oj.dst u) oi.dst v) h2 ∧ anyH P ops b k n ((rem.erase j).erase i) (upd (upd ρ oj.dst u) oi.dst v) h2 := by
            rintro ⟨y, hy⟩
            obtain ⟨u, e, hu⟩ := popO_iff.1 ((hy _ _).1 hh.2)
            exact (hy _ _).2 (popO_iff.2 ⟨u, e, agI v u h1 cj hh.1, hu.2⟩)
          rcases cj with cp | ca
          · exact kp (kp_of cp)
          · rcases ka_of (P := P) (ops := ops) (ρ := ρ) ca with ⟨y, hy⟩ | hp'
            · obtain ⟨z, e, hz⟩ := popO_iff.1 ((hy _ _).1 hh.2)
              refine (hy _ _).2 (popO_iff.2 ⟨z, e, fun r hn => ?_⟩)
              obtain ⟨u, e2, hu⟩ := popO_iff.1 (hz r hn)
              refine popO_iff.2 ⟨u, e2, ?_, hu.2⟩
              intro oi' hi' hce x ox hox hcx hx hxi hb
              exact foundH_set (L.own x ox hox hcx) (agI v u h1 (.inr ca) hh.1 oi' hi' hce x ox hox hcx hx hxi hb) hn
            · exact kp hp'
        have H3 : stepV P ops oj ρ h fun u h1 => stepV P ops oi ρ h1 fun v h2 => AG P ops b i (rem.erase j) (upd (upd ρ oj.dst u) oi.dst v) h2 ∧ anyH P ops b k n ((rem.erase j).erase i) (upd (upd ρ oj.dst u) oi.dst v) h2 := by
          rcases cj with cp | ca
          · exact swap_to_p keT (kp_of cp) hr H2
          · rcases ka_of (P := P) (ops := ops) (ρ := ρ) ca with ha | hp'
            · exact swap_ea keT ha hr H2
            · exact swap_to_p keT hp' hr H2
        exact keU.mono H3 fun u h1 hh => ⟨agJ0 cj0 _ _ _, hh⟩
    refine keU.mono (keU.real W hr) fun u h1 ⟨⟨hag, hst⟩, hr1⟩ => ⟨hag, ?_⟩
    rw [← eT u] at hst
    refine ih (rem.erase j) (upd ρ oj.dst u) h1 (by rw [List.length_erase_of_mem hj]; omega) (hnd.erase j) ?_ hr1 hmemi (fun x hx => hrdy x (List.mem_of_mem_erase hx)) (fun j' oj' hj' hne ho hb => hpair j' oj' (List.mem_of_mem_erase hj') hne ho hb) hst
    intro y hy x hx
    by_cases e : y = j
    · subst e; exact hjr x (List.mem_of_mem_erase hx)
    · exact hdc y (fun hm => hy ((List.mem_erase_of_ne e).2 hm)) x (List.mem_of_mem_erase hx)
end Go.Proofs.YtllopddcpkhfjaaDoor
