/- What a function's code does, said of a part of memory alone; and that it holds of every memory that has that part. Regions that draw their order: in an order of ours. -/
import Derived.Test.YtllopddcpkhfjaaDoorHBase
import Derived.RangeFuncLeaves
import Derived.RangeFuncRecord
set_option linter.unusedSimpArgs false
set_option linter.unusedVariables false
namespace Go.Proofs.YtllopddcpkhfjaaDoor
open Go

abbrev Env := Nat → Value
def upd (ρ : Env) (d : Option Tmp) (v : Value) : Env := match d with
  | some d => fun t => if t = d then v else ρ t
  | none => ρ
def ev (ρ : Env) : Operand → Value
  | .tmp t => ρ t
  | .const v => v
  | .global g => .pointer (some ⟨g, 0, none⟩)
  | .func f => .func (.func f) #[] #[]

theorem SemE.of_semH {P : Program} {α : Type} {s : Sem α} : ∀ {a : α} {h : PH} {Q : α → PH → Prop}, SemE P h s = some a → SemH P s h Q → Q a h := by
  induction s with
  | pure a => intro b h Q hb hh; simp only [SemE, Option.some.injEq] at hb; subst hb; exact hh
  | load m a k ih => rintro b h Q hb ⟨v, hv, hh⟩; simp only [SemE, hv, Option.bind_some] at hb; exact ih v hb hh
  | shape r k ih => rintro b h Q hb ⟨v, hv, hh⟩; simp only [SemE, hv, Option.bind_some] at hb; exact ih v hb hh
  | frozen a k ih => rintro b h Q hb ⟨⟨v, hv⟩, hh⟩; simp only [SemE, hv, Option.bind_some] at hb; exact ih _ hb hh
  | program k ih => intro b h Q hb hh; exact ih P hb hh
  | mark m k ih => intro b h Q hb hh; exact ih hb hh
  | getObj r k ih =>
    rintro b h Q hb ⟨o, ho, hc, hh⟩
    simp only [SemE, ho] at hb
    cases o <;> first | exact absurd rfl (hc _ _ _) | exact ih _ hb hh
  | _ => intro b h Q hb; cases hb

/-- A function that has a body of Go. -/
def enters (P : Program) (f : FuncId) : Bool := match P.funcs[f]? with
  | some fn => !(fn.name == "runtime.NumGoroutine") && !fn.body.isNone
  | none => false
/-- A call: it comes back, with R, whatever lies beside the part. -/
def CallsH (P : Program) (f : FuncId) (args : Array Value) (h : PH) (R : Value → PH → Prop) : Prop :=
  (enters P f = true ∧ ∀ w, Sub h w → Calls P f args w fun e w' => ∃ v h', e = .returned v ∧ R v h' ∧ Sub h' w' ∧ Fr h w h' w') ∨
  SemH P (callFunc f args) h fun n h' => ∃ v, n = .value v ∧ R v h'
theorem CallsH.mono {P : Program} {f : FuncId} {args : Array Value} {h : PH} {R R' : Value → PH → Prop} (hc : CallsH P f args h R) (hr : ∀ v h, R v h → R' v h) : CallsH P f args h R' := by
  rcases hc with ⟨h1, h2⟩ | hs
  · exact .inl ⟨h1, fun w hs => (h2 w hs).mono fun _ _ ⟨v, h', e, r, rest⟩ => ⟨v, h', e, hr _ _ r, rest⟩⟩
  · exact .inr (hs.mono fun n h' ⟨v, e, hv⟩ => ⟨v, e, hr _ _ hv⟩)
theorem CallsH.entry {P : Program} {f : FuncId} {args : Array Value} {h : PH} {R : Value → PH → Prop} {v : Value} (e : SemE P h (callFunc f args) = some (.value v)) (hv : R v h) : CallsH P f args h R := .inr (SemE.semH e ⟨v, rfl, hv⟩)
def NextH (P : Program) (n : Next) (h : PH) (kv : Value → PH → Prop) : Prop := match n with
  | .value v => kv v h
  | .skip => kv undef h
  | .enter f args => ∀ w, Sub h w → Calls P f args w fun e w' => ∃ v h', e = .returned v ∧ kv v h' ∧ Sub h' w' ∧ Fr h w h' w'
  | .round l f tmps assign body => ∀ w, Sub h w → RoundIn Fence.wide 0 P l f tmps assign body w fun e w' => ∃ v h', e = .returned v ∧ kv v h' ∧ Sub h' w' ∧ Fr h w h' w'
  | _ => False
theorem NextH.mono {P : Program} {n : Next} {h : PH} {k k' : Value → PH → Prop} (hn : NextH P n h k) (hk : ∀ v h, k v h → k' v h) : NextH P n h k' := by
  cases n <;> first
    | exact hk _ _ hn
    | exact fun w hs => Calls.mono (hn w hs) fun _ _ ⟨v, h', e, r, rest⟩ => ⟨v, h', e, hk _ _ r, rest⟩
    | exact fun w hs => RoundIn.mono (hn w hs) fun _ _ ⟨v, h', e, r, rest⟩ => ⟨v, h', e, hk _ _ r, rest⟩
    | exact hn.elim

def popO {α : Type} (x : Option α) (k : α → Prop) : Prop := match x with
  | some v => k v
  | none => False
theorem popO_iff {α : Type} {x : Option α} {k : α → Prop} : popO x k ↔ ∃ v, x = some v ∧ k v := by
  cases x <;> simp [popO]
def pickV (c a b : Value) : Option Value := match c with
  | .bool true => some a
  | .bool false => some b
  | _ => none

/-- One that lays one new block and does nothing else. -/
def SemA (P : Program) {α : Type} : Sem α → Option (Obj × (Nat → Sem α))
  | .new o k => some (o, k)
  | .program k => SemA P (k P)
  | .mark _ k => SemA P k
  | _ => none
theorem SemA.semH {P : Program} {α : Type} {s : Sem α} : ∀ {o : Obj} {k : Nat → Sem α}, SemA P s = some (o, k) → ∀ {h : PH} {Q : α → PH → Prop},
    (∀ r, h r = none → SemH P (k r) (h.set r o) Q) → SemH P s h Q := by
  induction s with
  | new o k ih => intro o' k' hb h Q hq; simp only [SemA, Option.some.injEq, Prod.mk.injEq] at hb; obtain ⟨rfl, rfl⟩ := hb; exact hq
  | program k ih => intro o' k' hb h Q hq; exact ih P hb hq
  | mark m k ih => intro o' k' hb h Q hq; exact ih hb hq
  | _ => intro o' k' hb; cases hb

inductive Cls where
  | p | r | a | e
  deriving DecidableEq, Repr

def clsOf (P : Program) : Op → Cls
  | .move _ | .assign _ | .pick .. | .nilCheck _ | .unOp .. | .fieldAddr .. | .field .. | .indexAddr .. | .index .. | .slice .. | .extract .. | .makeFunc .. | .build .. | .makeInterface .. => .p
  | .binOp op .. => match op with
    | .eql | .neq => .r
    | _ => .p
  | .load .. | .lookup .. => .r
  | .convert _ dst _ => match P.underlying dst with
    | some (.int _) => .p
    | some .string => .r
    | _ => .e
  | .alloc .. | .box .. | .buildSlice .. | .makeMap .. | .makeSlice .. => .a
  | .call c => match c.callee with
    | .builtin .len => match (c.argTypes[0]?).bind P.underlying with
      | some (.map ..) => .r
      | _ => .p
    | .builtin .min | .builtin .max | .builtin .cap => .p
    | _ => .e
  | _ => .e

/-- The operations that have one value and no block. -/
def semOf (ρ : Env) (o : Oper) : Sem Value := match o.op with
  | .move x | .assign x => pure (ev ρ x)
  | .pick c a b => do pure (if ← asBool (ev ρ c) then ev ρ a else ev ρ b)
  | .alloc elem => Instr.alloc elem true (.tuple #[])
  | .box elem x => Instr.box elem (ev ρ x)
  | .build t parts => Instr.build t (parts.map fun (i, x) => (i, ev ρ x))
  | .buildSlice t len parts => Instr.buildSlice t len (parts.map fun (i, x) => (i, ev ρ x))
  | .load t a => Instr.loadAt t (ev ρ a)
  | .nilCheck x =>
    match ev ρ x with
    | .pointer none | .nilIface | .nilFunc => .halt (.stuck "nil")
    | .func (.method _) _ _ => .halt (.stuck "method")
    | x => pure x
  | .binOp op xType x y _ => do eqGuard op xType x y (ev ρ x) (ev ρ y); binOp op xType (ev ρ x) (ev ρ y)
  | .unOp op _ x => Op.unary op (ev ρ x)
  | .convert src dst x => convert src dst (ev ρ x)
  | .makeInterface xType x => Instr.makeInterface xType (ev ρ x)
  | .makeFunc fn first captured => Instr.makeFunc fn (first.map (ev ρ)) (captured.map (ev ρ))
  | .makeMap t r => Instr.makeMap t (r.map (ev ρ))
  | .makeSlice t l c => Instr.makeSlice t (ev ρ l) (ev ρ c)
  | .slice t x lo hi mx => Instr.sliceAt t (ev ρ x) (lo.map (ev ρ)) (hi.map (ev ρ)) (mx.map (ev ρ))
  | .fieldAddr s x f => Instr.fieldAt s (ev ρ x) f
  | .field xType x f => Instr.field xType (ev ρ x) f
  | .indexAddr t x ix => Instr.indexAt t (ev ρ x) (ev ρ ix)
  | .index xType x ix => Instr.index xType (ev ρ x) (ev ρ ix)
  | .lookup xType x ix ok => Instr.lookup xType (ev ρ x) (ev ρ ix) ok
  | .extract t ix => Instr.extract (ev ρ t) ix
  | .range xType x => Instr.range xType (ev ρ x)
  | .next it isString => Instr.next (ev ρ it) isString o.type
  | .entry it => Instr.entry (ev ρ it)
  | .mapEntry t m k => Instr.mapEntry t (ev ρ m) (ev ρ k)
  | .typeAssert x xType asserted ok => Instr.typeAssert (ev ρ x) xType asserted ok
  | .store t a x => do Instr.storeAt t (ev ρ a) (ev ρ x); pure undef
  | .mapUpdate t m k x | .insert t m k x => do Instr.mapUpdate t (ev ρ m) (ev ρ k) (ev ρ x); pure undef
  | .entryStore t m s x => do Instr.entryStore t (ev ρ m) (ev ρ s) (ev ρ x); pure undef
  | .call c => match c.callee with
    | .builtin .append => Builtin.append_ c.argTypes o.type (c.args.map (ev ρ))
    | .builtin .len => Builtin.len_ c.argTypes o.type (c.args.map (ev ρ))
    | .builtin .cap => Builtin.cap_ c.argTypes o.type (c.args.map (ev ρ))
    | .builtin .min => Builtin.min_ c.argTypes o.type (c.args.map (ev ρ))
    | .builtin .max => Builtin.max_ c.argTypes o.type (c.args.map (ev ρ))
    | .builtin .copy => Builtin.copy_ c.argTypes o.type (c.args.map (ev ρ))
    | .builtin .clear => Builtin.clear_ c.argTypes o.type (c.args.map (ev ρ))
    | .builtin .delete => Builtin.delete_ c.argTypes o.type (c.args.map (ev ρ))
    | .builtin .unsafeString => Builtin.unsafeString_ c.argTypes o.type (c.args.map (ev ρ))
    | .builtin .unsafeSliceData => Builtin.unsafeSliceData_ c.argTypes o.type (c.args.map (ev ρ))
    | .builtin .unsafeStringData => Builtin.unsafeStringData_ c.argTypes o.type (c.args.map (ev ρ))
    | .builtin .unsafeSlice => Builtin.unsafeSlice_ c.argTypes o.type (c.args.map (ev ρ))
    | _ => .halt (.stuck "no value")
  | _ => .halt (.stuck "no value")

/-- A call of what is no builtin. -/
def callV (P : Program) (c : Call) (ρ : Env) (h : PH) (kv : Value → PH → Prop) : Prop := match c.callee with
  | .value (.func f) => CallsH P f (c.args.map (ev ρ)) h kv
  | .value x => match ev ρ x with
    | .func (.func f) first captured => CallsH P f (first ++ c.args.map (ev ρ) ++ captured) h kv
    | .func fn first captured => SemH P (invoke (.fn fn captured) (first ++ c.args.map (ev ρ))) h fun n h' => NextH P n h' kv
    | _ => False
  | .invoke recv name => SemH P (callMethod (ev ρ recv) name (c.args.map (ev ρ))) h fun n h' => NextH P n h' kv
  | .builtin _ => False

def isPlainCall : Op → Bool
  | .call c => match c.callee with
    | .builtin _ => false
    | _ => true
  | _ => false

/-- One operation, by its class. -/
def opV (P : Program) (o : Oper) (ρ : Env) (h : PH) (kv : Value → PH → Prop) : Prop := match clsOf P o.op with
  | .p => match o.op with
    | .move x | .assign x => kv (ev ρ x) h
    | .pick c a b => popO (pickV (ev ρ c) (ev ρ a) (ev ρ b)) fun v => kv v h
    | _ => popO (SemP P (semOf ρ o)) fun v => kv v h
  | .r => popO (SemE P h (semOf ρ o)) fun v => kv v h
  | .a => popO (SemA P (semOf ρ o)) fun x => ∀ r, h r = none → popO (SemP P (x.2 r)) fun v => kv v (h.set r x.1)
  | .e => match o.op with
    | .call c => match c.callee with
      | .builtin _ => SemH P (semOf ρ o) h kv
      | _ => callV P c ρ h kv
    | _ => SemH P (semOf ρ o) h kv

def yieldH (ops : Array Oper) (ρ : Env) (j : Nat) : Option Bool := match (ops[j]?).bind (·.dst) with
  | some d => match ρ d with
    | .bool b => some b
    | _ => none
  | none => none
def gopV (y : Option Bool) (want : Bool) (X : (Value → PH → Prop) → Prop) (h : PH) (kv : Value → PH → Prop) : Prop :=
  if y == some want then X kv else kv undef h
def stepV (P : Program) (all : Array Oper) (o : Oper) (ρ : Env) (h : PH) (kv : Value → PH → Prop) : Prop := match o.guard with
  | none => opV P o ρ h kv
  | some (j, want) => gopV (yieldH all ρ j) want (opV P o ρ h) h kv
def opsH (P : Program) (all : Array Oper) (k : Env → PH → Prop) : List Oper → Env → PH → Prop
  | [], ρ, h => k ρ h
  | o :: rest, ρ, h => stepV P all o ρ h fun v h' => opsH P all k rest (upd ρ o.dst v) h'

/-! ### The operations' soundness -/
theorem opV.mono {P : Program} {o : Oper} {ρ : Env} {h : PH} {k k' : Value → PH → Prop} (hk : ∀ v h, k v h → k' v h) (ho : opV P o ρ h k) : opV P o ρ h k' := by
  unfold opV at *
  split at ho
  · split at ho
    · exact hk _ _ ho
    · exact hk _ _ ho
    · obtain ⟨v, e, hv⟩ := popO_iff.1 ho; exact popO_iff.2 ⟨v, e, hk _ _ hv⟩
    · obtain ⟨v, e, hv⟩ := popO_iff.1 ho; exact popO_iff.2 ⟨v, e, hk _ _ hv⟩
  · obtain ⟨v, e, hv⟩ := popO_iff.1 ho; exact popO_iff.2 ⟨v, e, hk _ _ hv⟩
  · obtain ⟨x, e, hx⟩ := popO_iff.1 ho
    refine popO_iff.2 ⟨x, e, fun r hr => ?_⟩
    obtain ⟨v, e, hv⟩ := popO_iff.1 (hx r hr); exact popO_iff.2 ⟨v, e, hk _ _ hv⟩
  · split at ho
    · split at ho
      · exact ho.mono hk
      · unfold callV at *
        split at ho
        · exact ho.mono hk
        · split at ho
          · exact ho.mono hk
          · exact ho.mono fun _ _ hn => hn.mono hk
          · exact ho.elim
        · exact ho.mono fun _ _ hn => hn.mono hk
        · exact ho.elim
    · exact ho.mono hk
theorem stepV.mono {P : Program} {all : Array Oper} {o : Oper} {ρ : Env} {h : PH} {k k' : Value → PH → Prop} (hk : ∀ v h, k v h → k' v h) (ho : stepV P all o ρ h k) : stepV P all o ρ h k' := by
  unfold stepV at *
  split
  · rename_i e; simp only [e] at ho; exact ho.mono hk
  · rename_i j want e
    simp only [e] at ho
    unfold gopV at *
    split
    · rename_i e; rw [if_pos e] at ho; exact ho.mono hk
    · rename_i e; rw [if_neg e] at ho; exact hk _ _ ho

theorem opV.noDefer {P : Program} {o : Oper} {ρ : Env} {h : PH} {kv : Value → PH → Prop} (ho : opV P o ρ h kv) : ∀ c, o.op ≠ .defer c := by
  intro c hc
  have e : clsOf P o.op = .e := by rw [hc]; rfl
  unfold opV at ho
  rw [e] at ho
  simp only [hc] at ho
  unfold semOf at ho
  rw [hc] at ho
  exact ho

theorem semE_enter {P : Program} {f : FuncId} {args : Array Value} {h : PH} (he : enters P f = true) : SemE P h (callFunc f args) = some (.enter f args) := by
  unfold enters at he
  split at he
  · rename_i fn hf
    simp only [Bool.and_eq_true, Bool.not_eq_true'] at he
    unfold callFunc
    show SemE P h (match P.funcs[f]? with | none => _ | some fn => _) = _
    simp only [hf, he.1, he.2, Bool.false_eq_true, if_false]
    rfl
  · cases he
theorem semH_callFunc {P : Program} {f : FuncId} {args : Array Value} {h : PH} {kv : Value → PH → Prop} (hc : CallsH P f args h kv) :
    SemH P (callFunc f args) h fun n h' => NextH P n h' kv := by
  rcases hc with ⟨he, hw⟩ | hs
  · exact SemE.semH (semE_enter he) hw
  · exact hs.mono fun n h' ⟨v, e, hv⟩ => by subst e; exact hv
/-- A call of what has a body of Go. -/
theorem CallsH.calls {P : Program} {f : FuncId} {args : Array Value} {h : PH} {R : Value → PH → Prop} (hc : CallsH P f args h R) (he : enters P f = true) : ∀ w, Sub h w → Calls P f args w fun e w' => ∃ v h', e = .returned v ∧ R v h' ∧ Sub h' w' ∧ Fr h w h' w' := by
  rcases hc with ⟨_, hw⟩ | hs
  · exact hw
  · obtain ⟨v, e, _⟩ := SemE.of_semH (semE_enter he) hs; cases e

theorem semH_v {P : Program} {s : Sem Value} {h : PH} {kv : Value → PH → Prop} (hs : SemH P s h kv) :
    SemH P (do pure (Next.value (← s))) h fun n h' => NextH P n h' kv :=
  SemH.bind (P := P) (s := s) (f := fun v => pure (Next.value v)) hs
theorem semH_u {P : Program} {s : Sem Unit} {h : PH} {kv : Value → PH → Prop} (hs : SemH P (do s; pure undef) h kv) :
    SemH P (do s; pure Next.skip) h fun n h' => NextH P n h' kv := by
  have key : ∀ (s : Sem Unit) (h : PH), SemH P (s.bind fun _ => pure undef) h kv → SemH P (s.bind fun _ => pure Next.skip) h fun n h' => NextH P n h' kv := by
    intro s
    induction s with
    | pure a => intro h hh; exact hh
    | load m a k ih => rintro h ⟨v, hv, hh⟩; exact ⟨v, hv, ih v h hh⟩
    | store m a v k ih => rintro h ⟨h1, h2, h3, hh⟩; exact ⟨h1, h2, h3, ih _ hh⟩
    | new o k ih => intro h hh r hr; exact ih r _ (hh r hr)
    | shape r k ih => rintro h ⟨v, hv, hh⟩; exact ⟨v, hv, ih v _ hh⟩
    | freeze a n k ih => rintro h ⟨h1, hh⟩; exact ⟨h1, ih _ hh⟩
    | frozen a k ih => rintro h ⟨h1, hh⟩; exact ⟨h1, ih _ _ hh⟩
    | getObj r k ih => rintro h ⟨o, ho, hc, hh⟩; exact ⟨o, ho, hc, ih o _ hh⟩
    | setObj r o k ih => rintro h ⟨h1, hh⟩; exact ⟨h1, ih _ hh⟩
    | choose q k ih => intro h hh t; exact ih _ _ (hh t)
    | sys c k ih => intro h hh; exact hh.elim
    | program k ih => intro h hh; exact ih P _ hh
    | mark m k ih => intro h hh; exact ih _ hh
    | halt x => intro h hh; exact hh.elim
  exact key s h hs

theorem first_of (x : Value) (xs : Array Value) : (#[x] ++ xs)[0]? = some x := by
  rcases xs with ⟨l⟩
  simp
theorem rest_of (x : Value) (xs : Array Value) : (#[x] ++ xs).extract 1 (#[x] ++ xs).size = xs := by
  rcases xs with ⟨l⟩
  apply Array.ext'
  simp [List.drop_one]
/-- The operation itself, in the model's own words. -/
theorem opV.exec {P : Program} {o : Oper} {ρ : Env} {h : PH} {kv : Value → PH → Prop} (ho : opV P o ρ h kv) :
    SemH P (execOp (ev ρ) o) h fun n h' => NextH P n h' kv := by
  have hcases : SemH P (semOf ρ o) h kv ∨ (∃ c, o.op = .call c ∧ callV P c ρ h kv) := by
    unfold opV at ho
    split at ho
    · left
      split at ho
      · rename_i x hx; unfold semOf; rw [hx]; exact ho
      · rename_i x hx; unfold semOf; rw [hx]; exact ho
      · rename_i c a b hx
        obtain ⟨v, e, hv⟩ := popO_iff.1 ho
        unfold semOf; rw [hx]
        show SemH P ((asBool (ev ρ c)).bind fun x => pure (if x then ev ρ a else ev ρ b)) h kv
        generalize ev ρ c = vc at *
        cases vc with
        | bool t => cases t <;> (simp only [pickV, Option.some.injEq] at e; subst e; exact hv)
        | _ => cases e
      · obtain ⟨v, e, hv⟩ := popO_iff.1 ho
        exact SemE.semH (SemP.semE e h) hv
    · left
      obtain ⟨v, e, hv⟩ := popO_iff.1 ho
      exact SemE.semH e hv
    · left
      obtain ⟨x, e, hx⟩ := popO_iff.1 ho
      refine SemA.semH (o := x.1) (k := x.2) e fun r hr => ?_
      obtain ⟨v, e, hv⟩ := popO_iff.1 (hx r hr)
      exact SemE.semH (SemP.semE e _) hv
    · split at ho
      · split at ho
        · left; exact ho
        · right; exact ⟨_, by assumption, ho⟩
      · left; exact ho
  rcases hcases with hs | ⟨c, hc, hv⟩
  · unfold semOf at hs
    unfold execOp
    cases hop : o.op <;> simp only [hop] at hs ⊢
    case move => exact hs
    case assign => exact hs
    case pick c a b =>
      have hs' : SemH P ((asBool (ev ρ c)).bind fun x => pure (if x then ev ρ a else ev ρ b)) h kv := hs
      show SemH P ((asBool (ev ρ c)).bind fun x => pure (Next.value (if x then ev ρ a else ev ρ b))) h _
      generalize ev ρ c = vc at *
      cases vc with
      | bool t => exact hs'
      | _ => exact hs'.elim
    case nilCheck x =>
      generalize ev ρ x = v at *
      cases v with
      | pointer a => cases a with
        | none => exact hs.elim
        | some a => exact hs
      | func fn first captured => cases fn with
        | method name => exact hs.elim
        | _ => exact hs
      | nilIface => exact hs.elim
      | nilFunc => exact hs.elim
      | _ => exact hs
    case call c =>
      cases hcal : c.callee with
      | builtin b =>
        simp only [hcal] at hs
        unfold resolve
        simp only [hcal]
        cases b <;> first
          | exact hs.elim
          | exact semH_v hs
      | value f => simp only [hcal] at hs; exact hs.elim
      | invoke r n => simp only [hcal] at hs; exact hs.elim
    all_goals first
      | exact semH_v hs
      | exact semH_u hs
      | exact hs.elim
  · unfold execOp
    simp only [hc]
    unfold resolve
    unfold callV at hv
    cases hcal : c.callee with
    | builtin b => simp only [hcal] at hv
    | invoke r n =>
      simp only [hcal] at hv
      show SemH P (invoke (.fn (.method n) #[]) (#[ev ρ r] ++ c.args.map (ev ρ))) h _
      unfold invoke
      simp only [first_of, rest_of]
      exact hv
    | value f =>
      simp only [hcal]
      have key : ∀ (v : Value), ev ρ f = v → (match v with
          | .func (.func f) first captured => CallsH P f (first ++ c.args.map (ev ρ) ++ captured) h kv
          | .func fn first captured => SemH P (invoke (.fn fn captured) (first ++ c.args.map (ev ρ))) h fun n h' => NextH P n h' kv
          | _ => False) → SemH P (do let d ← Deferred.ofValue (ev ρ f) (c.args.map (ev ρ)); invoke d.target d.args) h fun n h' => NextH P n h' kv := by
        intro v he hh
        rw [he]
        cases v with
        | func fn first captured =>
          show SemH P (invoke (.fn fn captured) (first ++ c.args.map (ev ρ))) h _
          cases fn with
          | func g => exact semH_callFunc hh
          | _ => exact hh
        | _ => exact hh.elim
      cases f with
      | func g =>
        refine key _ rfl ?_
        simp only [hcal] at hv
        show CallsH P g (#[] ++ c.args.map (ev ρ) ++ #[]) h kv
        simpa using hv
      | tmp t => simp only [hcal] at hv; exact key _ rfl hv
      | const v => simp only [hcal] at hv; exact key _ rfl hv
      | global g => simp only [hcal] at hv; exact key _ rfl hv
end Go.Proofs.YtllopddcpkhfjaaDoor
