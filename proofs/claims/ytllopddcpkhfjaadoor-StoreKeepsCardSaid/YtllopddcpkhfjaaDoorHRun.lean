/- A function's code on a part of memory, as a whole: regions, choices, loops, calls; and that it holds of every memory that has that part. -/
import Derived.Test.YtllopddcpkhfjaaDoorHOrd
import Derived.OrdersIn
set_option linter.unusedSimpArgs false
set_option linter.unusedVariables false
namespace Go.Proofs.YtllopddcpkhfjaaDoor
open Go

/-! ### A region that draws, in an order of ours -/
def agsH (P : Program) (ops : Array Oper) : List Nat → Env → PH → Prop → Prop
  | [], _, _, K => K
  | x :: xs, ρ, h, K => match ops[x]? with
    | none => False
    | some o => match o.guard with
      | none => SemE P h (semOf ρ o) = o.dst.map ρ ∧ agsH P ops xs ρ h K
      | some (g, want) => ((yieldH ops ρ g == some want) = true → SemE P h (semOf ρ o) = o.dst.map ρ) ∧ agsH P ops xs ρ h K
def opsD (P : Program) (ops : Array Oper) (b : Array Nat) (k : Env → PH → Prop) : List Nat → List Nat → Env → PH → Prop
  | _, [], ρ, h => k ρ h
  | pend, i :: rest, ρ, h => match ops[i]? with
    | none => False
    | some o => stepV P ops o ρ h fun v h' => match clsOf P o.op with
      | .e => agsH P ops (pend.filter fun x => !bit b i x) (upd ρ o.dst v) h' (opsD P ops b k pend rest (upd ρ o.dst v) h')
      | .r => opsD P ops b k (i :: pend) rest (upd ρ o.dst v) h'
      | _ => opsD P ops b k pend rest (upd ρ o.dst v) h'

def clsAt (P : Program) (ops : Array Oper) (i : Nat) : Cls := match ops[i]? with
  | some o => clsOf P o.op
  | none => .e
def isR : Cls → Bool
  | .r => true
  | _ => false
def ordB (P : Program) (ops : Array Oper) (b : Array Nat) : List Nat → Bool
  | [] => true
  | i :: rest => !bit b i i && rest.all (fun j => !bit b i j && (bit b j i || pairOk (clsAt P ops i) (clsAt P ops j))) && ordB P ops b rest
def laidB (P : Program) (ops : Array Oper) (b : Array Nat) : Bool :=
  (List.range ops.size).all fun x => (List.range ops.size).all fun y => match ops[x]?, ops[y]? with
    | some ox, some oy => (x == y || bit b x y || bit b y x || ox.apart ops oy) &&
      (!isR (clsOf P ox.op) || ((x != y && bit b x y) || match oy.dst with
        | none => true
        | some d => !(ox.looksAt ops).contains d) && ox.dst.isSome && (x == y || oy.dst.isNone || ox.dst != oy.dst))
    | _, _ => true
def closB (ops : Array Oper) (b : Array Nat) : Bool :=
  (List.range ops.size).all fun i => match ops[i]? with
    | some o => (o.after.all fun e => !Region.binds .any e || e.on < i) &&
      (List.range ops.size).all fun x => !bit b i x || o.after.any fun e => Region.binds .any e && (e.on == x || bit b e.on x)
    | none => true
def nodupB : List Nat → Bool
  | [] => true
  | x :: xs => !xs.contains x && nodupB xs
def drawOk (P : Program) (ops : Array Oper) (b : Array Nat) (ord : List Nat) : Bool :=
  ord.length == ops.size && b.size == ops.size && ord.all (· < ops.size) && (List.range ops.size).all (ord.contains ·) && nodupB ord && ordB P ops b ord && laidB P ops b && closB ops b

theorem laid_of {P : Program} {ops : Array Oper} {b : Array Nat} (h : laidB P ops b = true) : Laid P ops b := by
  unfold laidB at h
  simp only [List.all_eq_true, List.mem_range] at h
  have lt : ∀ {x : Nat} {o : Oper}, ops[x]? = some o → x < ops.size := fun h => (Array.getElem?_eq_some_iff.1 h).1
  have key : ∀ (x y : Nat) (ox oy : Oper), ops[x]? = some ox → ops[y]? = some oy → ((x == y || bit b x y || bit b y x || ox.apart ops oy) &&
      (!isR (clsOf P ox.op) || ((x != y && bit b x y) || match oy.dst with
        | none => true
        | some d => !(ox.looksAt ops).contains d) && ox.dst.isSome && (x == y || oy.dst.isNone || ox.dst != oy.dst))) = true := by
    intro x y ox oy hx hy
    have := h x (lt hx) y (lt hy)
    simpa only [hx, hy] using this
  have isr : ∀ {c : Cls}, c = .r → isR c = true := fun e => by rw [e]; rfl
  constructor
  · intro x y ox oy hx hy hne h1 h2
    have := (Bool.and_eq_true _ _ ▸ key x y ox oy hx hy).1
    simpa [hne, h1, h2] using this
  · intro x y ox oy hx hy hc h1 d hd
    have := (Bool.and_eq_true _ _ ▸ key x y ox oy hx hy).2
    rw [isr hc] at this
    simp only [Bool.not_true, Bool.false_or, Bool.and_eq_true, hd] at this
    rcases Bool.or_eq_true _ _ ▸ this.1.1 with h3 | h3
    · simp only [Bool.and_eq_true, bne_iff_ne] at h3
      rw [h1 h3.1] at h3; cases h3.2
    · simpa using h3
  · intro x ox hx hc
    have := (Bool.and_eq_true _ _ ▸ key x x ox ox hx hx).2
    rw [isr hc] at this
    simp only [Bool.not_true, Bool.false_or, Bool.and_eq_true] at this
    exact this.1.2
  · intro x y ox oy hx hy hc hne d hd
    have := (Bool.and_eq_true _ _ ▸ key x y ox oy hx hy).2
    rw [isr hc] at this
    simp only [Bool.not_true, Bool.false_or, Bool.and_eq_true] at this
    have h3 := this.2
    rw [hd] at h3
    simpa [hne] using h3

theorem agsH_iff {P : Program} {ops : Array Oper} {ρ : Env} {h : PH} {K : Prop} : ∀ {l : List Nat}, agsH P ops l ρ h K → K ∧ ∀ x ∈ l, ∃ o, ops[x]? = some o ∧ foundH P ops o ρ h
  | [], hk => ⟨hk, fun _ hx => by cases hx⟩
  | x :: xs, hk => by
    unfold agsH at hk
    split at hk
    · exact hk.elim
    · rename_i o ho
      have hboth : foundH P ops o ρ h ∧ agsH P ops xs ρ h K := by
        unfold foundH wantH
        cases hg : o.guard with
        | none => simp only [hg] at hk; exact ⟨fun _ => hk.1, hk.2⟩
        | some gw => obtain ⟨g, want⟩ := gw; simp only [hg] at hk; exact ⟨fun hw => hk.1 hw, hk.2⟩
      obtain ⟨hK, hrest⟩ := agsH_iff hboth.2
      exact ⟨hK, fun y hy => by
        rcases List.mem_cons.1 hy with rfl | hy
        · exact ⟨o, ho, hboth.1⟩
        · exact hrest y hy⟩

theorem opsD_any {P : Program} {ops : Array Oper} {b : Array Nat} {k : Env → PH → Prop} (L : Laid P ops b) :
    ∀ (rest pend : List Nat) (ρ : Env) (h : PH), ordB P ops b rest = true → rest.Nodup → (∀ y, y ∉ rest → ∀ x ∈ rest, bit b y x = false) → Rl h →
      (∀ x ox, ops[x]? = some ox → clsOf P ox.op = .r → x ∉ rest → x ∈ pend) → opsD P ops b k pend rest ρ h → anyH P ops b k rest.length rest ρ h := by
  intro rest
  induction rest with
  | nil => intro pend ρ h _ _ _ _ _ H; exact H
  | cons i rest ih =>
    intro pend ρ h hord hnd hdc hr hpend H
    unfold opsD at H
    split at H
    · exact H.elim
    · rename_i o hi
      simp only [ordB, Bool.and_eq_true, Bool.not_eq_true', List.all_eq_true] at hord
      obtain ⟨⟨hii, hall⟩, hrest⟩ := hord
      obtain ⟨hnot, hnd'⟩ := List.nodup_cons.1 hnd
      have hrdy : ∀ x ∈ i :: rest, bit b i x = false := fun x hx => by
        rcases List.mem_cons.1 hx with rfl | hx
        · exact hii
        · exact (hall x hx).1
      have hdc' : ∀ y, y ∉ rest → ∀ x ∈ rest, bit b y x = false := fun y hy x hx => by
        by_cases e : y = i
        · subst e; exact (hall x hx).1
        · exact hdc y (fun hm => by rcases List.mem_cons.1 hm with hm | hm; exact e hm; exact hy hm) x (List.mem_cons_of_mem _ hx)
      refine takeFirst L hi rest.length (i :: rest) ρ h rfl hnd hdc hr (List.mem_cons_self) hrdy (fun j oj hj hne hoj hb => ?_) ?_
      · have hj' : j ∈ rest := (List.mem_cons.1 hj).resolve_left hne
        have := (hall j hj').2
        rw [hb, Bool.false_or] at this
        simpa only [clsAt, hi, hoj] using this
      · have ke : KE (stepV P ops o ρ) := ke_any
        refine ke.mono (ke.real H hr) fun v h' ⟨hh, hr'⟩ => ?_
        rw [List.erase_cons_head]
        cases hc : clsOf P o.op with
        | e =>
          simp only [hc] at hh
          obtain ⟨hK, hags⟩ := agsH_iff hh
          refine ⟨fun oi hoi hce x ox hox hcx hx hxi hb => ?_, ih pend _ _ hrest hnd' hdc' hr' (fun x ox hox hcx hx => ?_) hK⟩
          · obtain ⟨o', ho', hf⟩ := hags x (List.mem_filter.2 ⟨hpend x ox hox hcx hx, by simp [hb]⟩)
            rw [hox] at ho'; cases ho'
            exact hf
          · refine hpend x ox hox hcx fun hm => ?_
            rcases List.mem_cons.1 hm with rfl | hm
            · rw [hi] at hox; cases hox; rw [hc] at hcx; cases hcx
            · exact hx hm
        | r =>
          simp only [hc] at hh
          refine ⟨fun oi hoi hce => (by rw [hi] at hoi; cases hoi; rw [hc] at hce; cases hce), ih (i :: pend) _ _ hrest hnd' hdc' hr' (fun x ox hox hcx hx => ?_) hh⟩
          by_cases e : x = i
          · subst e; exact List.mem_cons_self
          · exact List.mem_cons_of_mem _ (hpend x ox hox hcx fun hm => by rcases List.mem_cons.1 hm with hm | hm; exact e hm; exact hx hm)
        | p =>
          simp only [hc] at hh
          refine ⟨fun oi hoi hce => (by rw [hi] at hoi; cases hoi; rw [hc] at hce; cases hce), ih pend _ _ hrest hnd' hdc' hr' (fun x ox hox hcx hx => ?_) hh⟩
          refine hpend x ox hox hcx fun hm => ?_
          rcases List.mem_cons.1 hm with rfl | hm
          · rw [hi] at hox; cases hox; rw [hc] at hcx; cases hcx
          · exact hx hm
        | a =>
          simp only [hc] at hh
          refine ⟨fun oi hoi hce => (by rw [hi] at hoi; cases hoi; rw [hc] at hce; cases hce), ih pend _ _ hrest hnd' hdc' hr' (fun x ox hox hcx hx => ?_) hh⟩
          refine hpend x ox hox hcx fun hm => ?_
          rcases List.mem_cons.1 hm with rfl | hm
          · rw [hi] at hox; cases hox; rw [hc] at hcx; cases hcx
          · exact hx hm

/-! ### The frame's slots, and the values -/
structure Match (n : Nat) (D : List Deferred) (ρ : Env) (a : Act) : Prop where
  defers : a.defers = D
  size : a.tmps.size = n
  slot : ∀ t, a.tmps.getD t undef = ρ t
theorem Match.ev {n : Nat} {D : List Deferred} {ρ : Env} {a : Act} (hm : Match n D ρ a) : a.eval = ev ρ := by
  funext x
  cases x with
  | tmp t => exact hm.slot t
  | _ => rfl
theorem Match.put {n : Nat} {D : List Deferred} {ρ : Env} {a : Act} (hm : Match n D ρ a) {d : Option Tmp} (hd : ∀ t, d = some t → t < n) (v : Value) : Match n D (upd ρ d v) (a.put d v) := by
  cases d with
  | none => exact hm
  | some t =>
    refine ⟨hm.defers, by simp [Act.put, hm.size], fun s => ?_⟩
    have ht : t < a.tmps.size := by rw [hm.size]; exact hd t rfl
    simp only [Act.put, upd, Array.getD_eq_getD_getElem?, Array.getElem?_setIfInBounds]
    by_cases e : s = t
    · subst e; simp [ht]
    · rw [if_neg (Ne.symm e), if_neg e, ← Array.getD_eq_getD_getElem?]; exact hm.slot s
theorem Match.want {n : Nat} {D : List Deferred} {ρ : Env} {a : Act} (hm : Match n D ρ a) (ops : Array Oper) (o : Oper) : Region.wanted o (yielded ops a.tmps) = wantH ops o ρ := by
  unfold Region.wanted wantH
  cases hg : o.guard with
  | none => rfl
  | some gw =>
    obtain ⟨g, want⟩ := gw
    have : yielded ops a.tmps g = yieldH ops ρ g := by
      unfold yielded yieldH
      cases hd : (ops[g]?).bind (·.dst) with
      | none => rfl
      | some t =>
        have hs := hm.slot t
        simp only [Option.bind_some]
        rw [Array.getD_eq_getD_getElem?] at hs
        cases hx : a.tmps[t]? with
        | none => rw [hx] at hs; simp only [Option.getD_none] at hs; rw [← hs]; rfl
        | some v => rw [hx] at hs; simp only [Option.getD_some] at hs; rw [← hs]; cases v <;> rfl
    simp only [this]

/-- The fence that lets all in; in a function's own frame, or in a round's. -/
abbrev wideR (r : Option Nat) : Fence := { Fence.wide with round := r }
theorem wideR_room (r : Option Nat) (n : Nat) : (wideR r).room n := fun _ h => by simp [Fence.wide] at h
theorem callsIn_wideR {r : Option Nat} {n : Nat} {P : Program} {f : FuncId} {args : Array Value} {w : World} {R : Ending → World → Prop} (h : Calls P f args w R) : CallsIn (wideR r) n P f args w R :=
  (callsIn_wide (n := n)).2 h
theorem roundIn_wideR {r : Option Nat} {n m : Nat} {P : Program} {l : Nat} {f : FuncId} {tmps : Array Value} {assign body : Code} {w : World} {R : Ending → World → Prop} (h : RoundIn Fence.wide m P l f tmps assign body w R) : RoundIn (wideR r) n P l f tmps assign body w R :=
  ⟨trivial, fun c cs _ => h.2 c cs (room_wide _)⟩

theorem step_wp {r : Option Nat} {N : Nat} {P : Program} {ops : Array Oper} {i : Nat} {o : Oper} {ρ : Env} {h : PH} {kv : Value → PH → Prop} {n : Nat} {D : List Deferred} {a : Act} {w : World} {Q : Exit → Act → World → Prop} {K : Act → World → Prop}
    (hi : ops[i]? = some o) (hs : stepV P ops o ρ h kv) (hm : Match n D ρ a) (hsub : Sub h w) (hk : ∀ v h' w', kv v h' → Sub h' w' → Fr h w h' w' → K (a.put o.dst v) w') : wpOpIn (wideR r) N P ops Q i K a w := by
  unfold wpOpIn
  simp only [hi]
  rw [stepV_eq] at hs
  rw [hm.want]
  by_cases hw : wantH ops o ρ = true
  · rw [if_pos hw] at hs ⊢
    unfold Oper.wpIn
    refine ⟨fun _ _ => trivial, ?_⟩
    rw [Oper.semAt_eq _ _ _ hs.noDefer, hm.ev]
    obtain ⟨x, w', h', hrun, hn, hs', hf⟩ := hs.exec.sound hsub
    rw [hrun]
    cases x with
    | value v => exact hk v h' w' hn hs' hf
    | skip => exact hk undef h' w' hn hs' hf
    | enter f args =>
      refine ⟨fun h => by simp [Fence.wide] at h, callsIn_wideR ((hn w' hs').mono fun e w2 ⟨v, h2, he, hv, hs2, hf2⟩ => ?_)⟩
      subst he
      exact hk v h2 w2 hv hs2 (hf.trans hf2)
    | round l f tmps assign body =>
      refine ⟨fun h => by simp [Fence.wide] at h, roundIn_wideR (RoundIn.mono (hn w' hs') fun e w2 ⟨v, h2, he, hv, hs2, hf2⟩ => ?_)⟩
      subst he
      exact hk v h2 w2 hv hs2 (hf.trans hf2)
    | _ => exact hn.elim
  · rw [if_neg hw] at hs ⊢
    exact ⟨fun _ _ => trivial, hk undef h w hs hsub (Fr.refl _ _)⟩

def dstB (n : Nat) (o : Oper) : Bool := match o.dst with
  | some d => d < n
  | none => true
theorem dst_of {n : Nat} {o : Oper} (h : dstB n o = true) : ∀ t, o.dst = some t → t < n := by
  intro t ht; unfold dstB at h; rw [ht] at h; simpa using h

/-- The blocks of the rounds' deferred calls: laid since the beginning, none in the part, nothing in them. -/
def markOf (b : Nat) : Deferred := { target := .collected b, args := #[] }
def Marks (w0 : World) (D : List Deferred) (h : PH) (w : World) : Prop :=
  ∃ bs : List Nat, bs.Nodup ∧ D = bs.map markOf ∧ ∀ b ∈ bs, w0.heap.size ≤ b ∧ b < w.heap.size ∧ h b = none ∧ w.heap[b]? = some (.deferred (some []))
theorem Marks.step {w0 : World} {D : List Deferred} {h h' : PH} {w w' : World} (hd : Marks w0 D h w) (hf : Fr h w h' w') : Marks w0 D h' w' := by
  obtain ⟨bs, h1, h2, h3⟩ := hd
  refine ⟨bs, h1, h2, fun b hb => ?_⟩
  obtain ⟨a1, a2, a3, a4⟩ := h3 b hb
  exact ⟨a1, Nat.lt_of_lt_of_le a2 hf.size, hf.none b a2 a3, (hf.far b a2 a3).trans a4⟩
theorem Marks.nil (w0 : World) (h : PH) (w : World) : Marks w0 [] h w := ⟨[], List.nodup_nil, rfl, fun b hb => by cases hb⟩
/-- What an end says. -/
def QW (n : Nat) (Q : Exit → Env → PH → Prop) (h0 : PH) (w0 : World) : Exit → Act → World → Prop := fun e a w => ∃ ρ h D, Q e ρ h ∧ Match n D ρ a ∧ Sub h w ∧ Fr h0 w0 h w ∧ Marks w0 D h w

theorem ops_wp {r : Option Nat} {N : Nat} {P : Program} {ops : Array Oper} {n : Nat} {D : List Deferred} {Q : Exit → Env → PH → Prop} {h0 : PH} {w0 : World} (hd : ∀ o ∈ ops, dstB n o = true) :
    ∀ (m k : Nat) (ρ : Env) (h : PH) (a : Act) (w : World), k + m = ops.size → opsH P ops (Q .normal) (ops.toList.drop k) ρ h → Match n D ρ a → Sub h w → Fr h0 w0 h w → Marks w0 D h w →
      wpOpsIn (wideR r) N P ops (QW n Q h0 w0) (List.range' k m) a w := by
  intro m
  induction m with
  | zero =>
    intro k ρ h a w hk H hm hs hf hD
    rw [List.drop_of_length_le (by simp; omega)] at H
    exact ⟨ρ, h, D, H, hm, hs, hf, hD⟩
  | succ m ih =>
    intro k ρ h a w hk H hm hs hf hD
    have hlt : k < ops.size := by omega
    have hget : ops[k]? = some ops[k] := Array.getElem?_eq_getElem hlt
    rw [List.drop_eq_getElem_cons (by simpa using hlt)] at H
    rw [List.range'_succ, wpOpsIn_cons]
    refine step_wp hget H hm hs fun v h' w' hv hs' hf' => ?_
    exact ih (k + 1) _ _ _ _ (by omega) hv (hm.put (dst_of (hd _ (Array.getElem_mem hlt))) v) hs' (hf.trans hf') (hD.step hf')

theorem any_wp {r : Option Nat} {N : Nat} {P : Program} {ops : Array Oper} {b : Array Nat} {n : Nat} {D : List Deferred} {Q : Exit → Env → PH → Prop} {h0 : PH} {w0 : World} (hd : ∀ o ∈ ops, dstB n o = true) (hc : closB ops b = true) :
    ∀ (m : Nat) (rem : List Nat) (listed : Array Bool) (ρ : Env) (h : PH) (a : Act) (w : World), rem.length = m → rem.Nodup → (∀ x, x ∈ rem ↔ x < ops.size ∧ listed.getD x true = false) → listed.size = ops.size →
      (∀ y, y ∉ rem → ∀ x ∈ rem, bit b y x = false) → anyH P ops b (Q .normal) m rem ρ h → Match n D ρ a → Sub h w → Fr h0 w0 h w → Marks w0 D h w →
      wpAnyIn (wideR r) N P .any ops (QW n Q h0 w0) m listed a w := by
  unfold closB at hc
  simp only [List.all_eq_true, List.mem_range] at hc
  have hcl : ∀ (i : Nat) (o : Oper), ops[i]? = some o → (∀ e ∈ o.after, Region.binds .any e = true → e.on < i) ∧ ∀ x, x < ops.size → bit b i x = true → ∃ e ∈ o.after, Region.binds .any e = true ∧ (e.on = x ∨ bit b e.on x = true) := by
    intro i o hi
    have := hc i (Array.getElem?_eq_some_iff.1 hi).1
    simp only [hi, Bool.and_eq_true, List.all_eq_true, List.mem_range] at this
    refine ⟨fun e he hb => ?_, fun x hx hb => ?_⟩
    · have h1 := Array.all_eq_true_iff_forall_mem.1 this.1 e he
      simpa [hb] using h1
    · have h1 := this.2 x hx
      rw [hb] at h1
      simp only [Bool.not_true, Bool.false_or] at h1
      obtain ⟨e, he, h2⟩ := Array.any_eq_true'.1 h1
      simp only [Bool.and_eq_true, Bool.or_eq_true, beq_iff_eq] at h2
      exact ⟨e, he, h2⟩
  intro m
  induction m with
  | zero =>
    intro rem listed ρ h a w hlen hnd hrem hsz hdc H hm hs hf hD
    have : rem = [] := List.eq_nil_of_length_eq_zero hlen
    subst this
    refine ⟨?_, ρ, h, D, H, hm, hs, hf, hD⟩
    rw [List.eq_nil_iff_forall_not_mem]
    intro j hj
    obtain ⟨h1, o, ho, _⟩ := mem_ready.1 hj
    have := (hrem j).2 ⟨(Array.getElem?_eq_some_iff.1 ho).1, h1⟩
    cases this
  | succ m ih =>
    intro rem listed ρ h a w hlen hnd hrem hsz hdc H hm hs hf hD
    have hlisted : ∀ x, x < ops.size → x ∉ rem → listed.getD x false = true := by
      intro x hx hn
      cases hv : listed.getD x true with
      | false => exact absurd ((hrem x).2 ⟨hx, hv⟩) hn
      | true =>
        have hlt : x < listed.size := by omega
        simpa [Array.getD_eq_getD_getElem?, hlt] using hv
    refine ⟨fun hr => ?_, fun i hir => ?_⟩
    · -- the lowest one that is left may come up
      exfalso
      have hne : rem ≠ [] := fun e => by rw [e] at hlen; cases hlen
      have hmin : ∃ i ∈ rem, ∀ x ∈ rem, i ≤ x := by
        clear hlen hnd hrem hdc H hlisted
        induction rem with
        | nil => exact absurd rfl hne
        | cons y ys ihy =>
          by_cases hys : ys = []
          · subst hys; exact ⟨y, List.mem_cons_self, fun x hx => by simp at hx; omega⟩
          · obtain ⟨i, hi, hle⟩ := ihy hys
            by_cases hyi : y ≤ i
            · exact ⟨y, List.mem_cons_self, fun x hx => by
                rcases List.mem_cons.1 hx with rfl | hx
                · omega
                · have := hle x hx; omega⟩
            · exact ⟨i, List.mem_cons_of_mem _ hi, fun x hx => by
                rcases List.mem_cons.1 hx with rfl | hx
                · omega
                · exact hle x hx⟩
      obtain ⟨i, hi, hle⟩ := hmin
      obtain ⟨hlt, hun⟩ := (hrem i).1 hi
      have : i ∈ Region.ready .any ops listed := by
        rw [mem_ready]
        refine ⟨hun, ops[i], Array.getElem?_eq_getElem hlt, fun e he hb => ?_⟩
        have hlt2 := (hcl i _ (Array.getElem?_eq_getElem hlt)).1 e he hb
        exact hlisted _ (by omega) (fun hm => by have := hle _ hm; omega)
      rw [hr] at this; cases this
    · obtain ⟨hun, o, ho, hall⟩ := mem_ready.1 hir
      have hlt := (Array.getElem?_eq_some_iff.1 ho).1
      have hmem : i ∈ rem := (hrem i).2 ⟨hlt, hun⟩
      have hrdy : ∀ x ∈ rem, bit b i x = false := by
        intro x hx
        cases hb : bit b i x with
        | false => rfl
        | true =>
          exfalso
          obtain ⟨e, he, hbi, hor⟩ := (hcl i o ho).2 x ((hrem x).1 hx).1 hb
          have hl := hall e he hbi
          have hlt2 := (hcl i o ho).1 e he hbi
          have hne : e.on ∉ rem := fun hm => by
            have := ((hrem _).1 hm).2
            have hsz' : e.on < listed.size := by omega
            simp [Array.getD_eq_getD_getElem?, hsz'] at this hl
            rw [this] at hl; cases hl
          rcases hor with rfl | hor
          · exact hne hx
          · rw [hdc _ hne x hx] at hor; cases hor
      obtain ⟨o', ho', hst⟩ := H i hmem hrdy
      rw [ho] at ho'; cases ho'
      refine step_wp ho hst hm hs fun v h' w' hv hs' hf' => ?_
      refine ih (rem.erase i) (listed.setIfInBounds i true) _ _ _ _ (by rw [List.length_erase_of_mem hmem]; omega) (hnd.erase i) (fun x => ?_) (by simpa using hsz) ?_ hv.2 (hm.put (dst_of (hd _ (Array.mem_of_getElem? ho))) v) hs' (hf.trans hf') (hD.step hf')
      · rw [hnd.mem_erase_iff, hrem]
        by_cases e : x = i
        · subst e
          have : x < listed.size := by omega
          simp [Array.getD_eq_getD_getElem?, this]
        · rw [getD_set_ne true (Ne.symm e)]
          simp [e]
      · intro y hy x hx
        by_cases e : y = i
        · subst e; exact hrdy x (List.mem_of_mem_erase hx)
        · exact hdc y (fun hm' => hy ((List.mem_erase_of_ne e).2 hm')) x (List.mem_of_mem_erase hx)

theorem draw_wp {r : Option Nat} {N : Nat} {D : List Deferred} {P : Program} {id : Nat} {ops : Array Oper} {b : Array Nat} {ord : List Nat} {n : Nat} {Q : Exit → Env → PH → Prop} {h0 : PH} {w0 : World} {ρ : Env} {h : PH} {a : Act} {w : World}
    (hmix : P.follows .mixedOrders = true) (hd : ∀ o ∈ ops, dstB n o = true) (hok : drawOk P ops b ord = true) (H : opsD P ops b (Q .normal) [] ord ρ h) (hm : Match n D ρ a) (hs : Sub h w) (hf : Fr h0 w0 h w) (hD : Marks w0 D h w) :
    (Code.region id ops true).wpIn (wideR r) N P (QW n Q h0 w0) a w := by
  unfold drawOk at hok
  simp only [Bool.and_eq_true, beq_iff_eq, List.all_eq_true, decide_eq_true_eq] at hok
  obtain ⟨⟨⟨⟨⟨⟨⟨hlen, hbs⟩, hlt⟩, hcov⟩, hnd⟩, hord⟩, hlaid⟩, hclos⟩ := hok
  have hnodup : ord.Nodup := by
    clear hlen hlt hord H hcov
    induction ord with
    | nil => exact List.nodup_nil
    | cons x xs ih =>
      simp only [nodupB, Bool.and_eq_true, Bool.not_eq_true'] at hnd
      exact List.nodup_cons.2 ⟨by simpa using hnd.1, ih hnd.2⟩
  have hall : ∀ x, x < ops.size → x ∈ ord := fun x hx => by simpa using hcov x (List.mem_range.2 hx)
  have hdc : ∀ y, y ∉ ord → ∀ x ∈ ord, bit b y x = false := by
    intro y hy x hx
    have hge : ops.size ≤ y := by
      rcases Nat.lt_or_ge y ops.size with h1 | h1
      · exact absurd (hall y h1) hy
      · exact h1
    unfold bit
    rw [Array.getD_eq_getD_getElem?, Array.getElem?_eq_none (by omega)]
    simp
  refine wpIn_region_any hmix ?_
  have hs1 : Sub h { w with drawn := w.drawn + 1 } := hs
  have hf1 : Fr h0 w0 h { w with drawn := w.drawn + 1 } := ⟨hf.os, hf.tape, hf.output, Nat.le_trans hf.drawn (Nat.le_succ _), hf.size, hf.far, hf.none⟩
  have hany := opsD_any (laid_of hlaid) ord [] ρ h hord hnodup hdc ⟨w, hs⟩ (fun x ox hox _ hx => absurd (hall x (Array.getElem?_eq_some_iff.1 hox).1) hx) H
  rw [hlen] at hany
  exact any_wp hd hclos ops.size ord _ ρ h a _ hlen hnodup (fun x => by
    constructor
    · intro hx; exact ⟨hlt x hx, by simp [Array.getD_eq_getD_getElem?, hlt x hx]⟩
    · intro hx; exact hall x hx.1) (by simp) hdc hany hm hs1 hf1 hD
end Go.Proofs.YtllopddcpkhfjaaDoor
