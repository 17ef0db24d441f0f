/- How single operations come out on a part of memory. -/
import Derived.Test.YtllopddcpkhfjaaDoorHFun
import Derived.Laws.Append
import Derived.IntWalk
set_option linter.unusedSimpArgs false
set_option linter.unusedVariables false
namespace Go.Proofs.YtllopddcpkhfjaaDoor
open Go

/-! ### Parts -/
theorem set_same {h : PH} {r : Nat} {o : Obj} : (h.set r o) r = some o := by simp [PH.set]
theorem set_other {h : PH} {r b : Nat} {o : Obj} (hne : b ≠ r) : (h.set r o) b = h b := by simp [PH.set, hne]
theorem ne_new {h : PH} {r b : Nat} {o : Obj} (hb : h b = some o) (hr : h r = none) : b ≠ r := by rintro rfl; rw [hr] at hb; cases hb
theorem set_old {h : PH} {r b : Nat} {o u : Obj} (hr : h r = none) (hb : h b = some u) : (h.set r o) b = some u := by rw [set_other (ne_new hb hr)]; exact hb

/-- All is as it was, but for the blocks of F, and new ones. -/
def Upd (F : List Nat) (h h' : PH) : Prop := ∀ b o, h b = some o → b ∉ F → h' b = some o
theorem Upd.refl {F : List Nat} {h : PH} : Upd F h h := fun _ _ hb _ => hb
theorem Upd.trans {F : List Nat} {h h1 h2 : PH} (a : Upd F h h1) (b : Upd F h1 h2) : Upd F h h2 := fun x o hx hn => b x o (a x o hx hn) hn
theorem Upd.mono {F G : List Nat} {h h' : PH} (a : Upd F h h') (hs : ∀ b, b ∈ F → b ∈ G ∨ h b = none) : Upd G h h' := fun x o hx hn => a x o hx fun hm => by
  rcases hs x hm with h1 | h1
  · exact hn h1
  · rw [hx] at h1; cases h1
theorem Upd.then {F F' : List Nat} {h h1 h2 : PH} (a : Upd F h h1) (b : Upd F' h1 h2) (hs : ∀ b, b ∈ F' → b ∈ F ∨ h b = none) : Upd F h h2 := fun x o hx hn =>
  b x o (a x o hx hn) fun hm => by
    rcases hs x hm with h1 | h1
    · exact hn h1
    · rw [hx] at h1; cases h1
theorem Upd.new {F : List Nat} {h : PH} {r : Nat} {o : Obj} (hr : h r = none) : Upd F h (h.set r o) := fun _ _ hb _ => set_old hr hb
theorem Upd.set {F : List Nat} {h : PH} {r : Nat} {o : Obj} (hr : r ∈ F) : Upd F h (h.set r o) := fun b u hb hn => by
  rw [set_other (by rintro rfl; exact hn hr)]; exact hb
theorem Upd.get {F : List Nat} {h h' : PH} (a : Upd F h h') {b : Nat} {o : Obj} (hb : h b = some o) (hn : b ∉ F) : h' b = some o := a b o hb hn
abbrev Ext (h h' : PH) : Prop := Upd [] h h'
theorem Ext.get {h h' : PH} (a : Ext h h') {b : Nat} {o : Obj} (hb : h b = some o) : h' b = some o := a b o hb (by simp)
theorem Ext.upd {F : List Nat} {h h' : PH} (a : Ext h h') : Upd F h h' := fun b o hb _ => a b o hb (by simp)

/-! ### The printed words -/
theorem popO_some {α : Type} {v : α} {k : α → Prop} : popO (some v) k = k v := (rfl)
theorem popO_none {α : Type} {k : α → Prop} : popO (none : Option α) k = False := (rfl)
theorem bindH_eq {h : PH} {k : PH → Prop} : bindH h k = k h := (rfl)
theorem condV_true {A B : Prop} : condV (.bool true) A B = A := (rfl)
theorem condV_false {A B : Prop} : condV (.bool false) A B = B := (rfl)
theorem condV_bool {b : Bool} {A B : Prop} : condV (.bool b) A B = if b then A else B := by cases b <;> rfl
theorem yV_bool {b : Bool} : yV (.bool b) = some b := (rfl)
theorem gopV_yes {X : (Value → PH → Prop) → Prop} {h : PH} {kv : Value → PH → Prop} {w : Bool} : gopV (some w) w X h kv = X kv := by simp [gopV]
theorem gopV_tt {X : (Value → PH → Prop) → Prop} {h : PH} {kv : Value → PH → Prop} : gopV (some true) true X h kv = X kv := (rfl)
theorem gopV_ff {X : (Value → PH → Prop) → Prop} {h : PH} {kv : Value → PH → Prop} : gopV (some false) false X h kv = X kv := (rfl)
theorem gopV_tf {X : (Value → PH → Prop) → Prop} {h : PH} {kv : Value → PH → Prop} : gopV (some true) false X h kv = kv undef h := (rfl)
theorem gopV_ft {X : (Value → PH → Prop) → Prop} {h : PH} {kv : Value → PH → Prop} : gopV (some false) true X h kv = kv undef h := (rfl)
theorem pickV_t {a b : Value} : pickV (.bool true) a b = some a := (rfl)
theorem pickV_f {a b : Value} : pickV (.bool false) a b = some b := (rfl)
theorem pickV_bool {c : Bool} {a b : Value} : pickV (.bool c) a b = some (if c then a else b) := by cases c <;> rfl

section
variable {P : Program} {h : PH}
theorem nilS_ptr {a : Addr} : SemP P (nilS (.pointer (some a))) = some (.pointer (some a)) := (rfl)
theorem nilS_func {f : FuncId} {x y : Array Value} : SemP P (nilS (.func (.func f) x y)) = some (.func (.func f) x y) := (rfl)
theorem nilS_iface {t : TypeId} {v : Value} : SemP P (nilS (.iface t v)) = some (.iface t v) := (rfl)
theorem makeFunc_eq {f : Fn} {x y : Array Value} : SemP P (Instr.makeFunc f x y) = some (.func f x y) := (rfl)
theorem add_eq {t : TypeId} {k : IntKind} {a b : Int} : SemP P (binOp .add t (.int k a) (.int k b)) = some (.int k (k.wrap (a + b))) := by simp [binOp, Op.intArith, SemP, pure]
theorem sub_eq {t : TypeId} {k : IntKind} {a b : Int} : SemP P (binOp .sub t (.int k a) (.int k b)) = some (.int k (k.wrap (a - b))) := by simp [binOp, Op.intArith, SemP, pure]
theorem mul_eq {t : TypeId} {k : IntKind} {a b : Int} : SemP P (binOp .mul t (.int k a) (.int k b)) = some (.int k (k.wrap (a * b))) := by simp [binOp, Op.intArith, SemP, pure]
theorem lss_eq {t : TypeId} {k : IntKind} {a b : Int} : SemP P (binOp .lss t (.int k a) (.int k b)) = some (.bool (decide (a < b))) := by simp [binOp, Op.intCmp, SemP, pure]
theorem leq_eq {t : TypeId} {k : IntKind} {a b : Int} : SemP P (binOp .leq t (.int k a) (.int k b)) = some (.bool (decide (a ≤ b))) := by simp [binOp, Op.intCmp, SemP, pure]
theorem gtr_eq {t : TypeId} {k : IntKind} {a b : Int} : SemP P (binOp .gtr t (.int k a) (.int k b)) = some (.bool (decide (b < a))) := by simp [binOp, Op.intCmp, SemP, pure]
theorem geq_eq {t : TypeId} {k : IntKind} {a b : Int} : SemP P (binOp .geq t (.int k a) (.int k b)) = some (.bool (decide (b ≤ a))) := by simp [binOp, Op.intCmp, SemP, pure]
theorem quo_eq {t : TypeId} {k : IntKind} {a b : Int} (hb : b ≠ 0) : SemP P (binOp .quo t (.int k a) (.int k b)) = some (.int k (k.wrap (a.tdiv b))) := by simp [binOp, Op.intDiv, hb, SemP, pure]
theorem rem_eq {t : TypeId} {k : IntKind} {a b : Int} (hb : b ≠ 0) : SemP P (binOp .rem t (.int k a) (.int k b)) = some (.int k (a.tmod b)) := by simp [binOp, Op.intDiv, hb, SemP, pure]
theorem shl_eq {t : TypeId} {k k' : IntKind} {a b : Int} (hb : 0 ≤ b) : SemP P (binOp .shl t (.int k a) (.int k' b)) = some (.int k (k.wrap (a * 2 ^ (min b.toNat k.bits)))) := by
  have : ¬ b < 0 := by omega
  simp [binOp, Op.shift, this, SemP, pure]
theorem shr_eq {t : TypeId} {k k' : IntKind} {a b : Int} (hb : 0 ≤ b) : SemP P (binOp .shr t (.int k a) (.int k' b)) = some (.int k (a.fdiv (2 ^ (min b.toNat k.bits)))) := by
  have : ¬ b < 0 := by omega
  simp [binOp, Op.shift, this, SemP, pure]
theorem not_eq {b : Bool} : SemP P (Op.unary .not (.bool b)) = some (.bool (!b)) := (rfl)
theorem minI_eq {ts : Array TypeId} {t : TypeId} {k k' : IntKind} {x y : Int} : SemP P (Builtin.min_ ts t #[.int k x, .int k' y]) = some (.int k (if y < x then y else x)) := (rfl)
theorem maxI_eq {ts : Array TypeId} {t : TypeId} {k k' : IntKind} {x y : Int} : SemP P (Builtin.max_ ts t #[.int k x, .int k' y]) = some (.int k (if x < y then y else x)) := by
  rfl
theorem extract_0 {a : Value} {l : List Value} : SemP P (Instr.extract (.tuple ⟨a :: l⟩) 0) = some a := (rfl)
theorem extract_1 {a b : Value} {l : List Value} : SemP P (Instr.extract (.tuple ⟨a :: b :: l⟩) 1) = some b := (rfl)
theorem extract_2 {a b c : Value} {l : List Value} : SemP P (Instr.extract (.tuple ⟨a :: b :: c :: l⟩) 2) = some c := (rfl)
theorem eqlI {t : TypeId} {x y : Operand} {k : IntKind} {a b : Int} : SemE P h (binS .eql t x y (.int k a) (.int k b)) = some (.bool (a == b)) := by
  simp [binS, eqGuard, binOp, Op.intCmp, SemE, bind, Sem.bind, pure]
theorem neqI {t : TypeId} {x y : Operand} {k : IntKind} {a b : Int} : SemE P h (binS .neq t x y (.int k a) (.int k b)) = some (.bool (a != b)) := by
  simp [binS, eqGuard, binOp, Op.intCmp, SemE, bind, Sem.bind, pure]
end

/-! ### By types -/
def flatD : TypeDesc → Bool
  | .struct _ | .array _ _ => false
  | _ => true
theorem plain_add (b o n : Nat) : (⟨b, o, none⟩ : Addr).add n = ⟨b, o + n, none⟩ := by unfold Addr.add; split <;> simp_all
section
variable {P : Program} {h : PH} {t t' e : TypeId}
theorem semE_und {α : Type} {d : TypeDesc} (hu : P.underlying t = some d) (f : TypeDesc → Sem α) : SemE P h (underlying t >>= f) = SemE P h (f d) := by
  show SemE P h ((match P.underlying t with | some d => pure d | none => stuck _ : Sem TypeDesc).bind f) = _
  rw [hu]; rfl
theorem semP_und {α : Type} {d : TypeDesc} (hu : P.underlying t = some d) (f : TypeDesc → Sem α) : SemP P (underlying t >>= f) = SemP P (f d) := by
  show SemP P ((match P.underlying t with | some d => pure d | none => stuck _ : Sem TypeDesc).bind f) = _
  rw [hu]; rfl
theorem semH_und {α : Type} {d : TypeDesc} {Q : α → PH → Prop} (hu : P.underlying t = some d) (f : TypeDesc → Sem α) : SemH P (underlying t >>= f) h Q = SemH P (f d) h Q := by
  show SemH P ((match P.underlying t with | some d => pure d | none => stuck _ : Sem TypeDesc).bind f) h Q = _
  rw [hu]; rfl
theorem semA_und {α : Type} {d : TypeDesc} (hu : P.underlying t = some d) (f : TypeDesc → Sem α) : SemA P (underlying t >>= f) = SemA P (f d) := by
  show SemA P ((match P.underlying t with | some d => pure d | none => stuck _ : Sem TypeDesc).bind f) = _
  rw [hu]; rfl
theorem semE_info {α : Type} {d : TypeInfo} (hu : P.info? t = some d) (f : TypeInfo → Sem α) : SemE P h (typeInfo t >>= f) = SemE P h (f d) := by
  show SemE P h ((match P.info? t with | some i => pure i | none => stuck _ : Sem TypeInfo).bind f) = _
  rw [hu]; rfl
theorem semP_info {α : Type} {d : TypeInfo} (hu : P.info? t = some d) (f : TypeInfo → Sem α) : SemP P (typeInfo t >>= f) = SemP P (f d) := by
  show SemP P ((match P.info? t with | some i => pure i | none => stuck _ : Sem TypeInfo).bind f) = _
  rw [hu]; rfl
theorem semH_info {α : Type} {d : TypeInfo} {Q : α → PH → Prop} (hu : P.info? t = some d) (f : TypeInfo → Sem α) : SemH P (typeInfo t >>= f) h Q = SemH P (f d) h Q := by
  show SemH P ((match P.info? t with | some i => pure i | none => stuck _ : Sem TypeInfo).bind f) h Q = _
  rw [hu]; rfl
theorem sizeOf_bind {α : Type} (f : Nat → Sem α) : (sizeOf t >>= f) = (typeInfo t >>= fun i => f i.size) := by
  show (sizeOf t).bind f = (typeInfo t).bind fun i => f i.size
  unfold sizeOf
  show ((typeInfo t).bind fun i => Sem.pure i.size).bind f = _
  rw [show ∀ (s : Sem TypeInfo), (s.bind fun i => Sem.pure i.size).bind f = s.bind fun i => f i.size from fun s => by
    induction s with
    | pure a => rfl
    | load m a k ih => simp only [Sem.bind, ih]
    | store m a v k ih => simp only [Sem.bind, ih]
    | new o k ih => simp only [Sem.bind, ih]
    | shape r k ih => simp only [Sem.bind, ih]
    | freeze a n k ih => simp only [Sem.bind, ih]
    | frozen a k ih => simp only [Sem.bind, ih]
    | getObj r k ih => simp only [Sem.bind, ih]
    | setObj r o k ih => simp only [Sem.bind, ih]
    | choose q k ih => simp only [Sem.bind, ih]
    | sys c k ih => simp only [Sem.bind, ih]
    | program k ih => simp only [Sem.bind, ih]
    | mark m k ih => simp only [Sem.bind, ih]
    | halt x => rfl]

theorem len_slice {a : Option Addr} {n c : Nat} (hu : P.underlying t = some (.slice e)) : SemP P (Builtin.len_ #[t] t' #[.slice a n c]) = some (.int .i64 n) := by
  show SemP P (underlying t >>= _) = _
  rw [semP_und hu]; rfl
theorem len_string {s : ByteArray} (hu : P.underlying t = some .string) : SemP P (Builtin.len_ #[t] t' #[.string s]) = some (.int .i64 s.size) := by
  show SemP P (underlying t >>= _) = _
  rw [semP_und hu]; rfl
theorem len_map {r : Nat} {es : Array MapEntry} {k v : TypeId} {c : Nat} (hu : P.underlying t = some (.map k v)) (hr : h r = some (.map es c)) : SemE P h (Builtin.len_ #[t] t' #[.map (some r)]) = some (.int .i64 es.size) := by
  show SemE P h (underlying t >>= _) = _
  rw [semE_und hu]
  show SemE P h (getObj r >>= _) = _
  simp [getObj, bind, Sem.bind, SemE, hr, goInt, pure]

theorem semE_agg {α : Type} {d : TypeDesc} (hu : P.underlying t = some d) (f : Bool → Sem α) : SemE P h (isAgg t >>= f) = SemE P h (f (!flatD d)) := by
  unfold isAgg
  rw [bind_assoc, semE_und hu]
  cases d <;> rfl
theorem semH_agg {α : Type} {d : TypeDesc} {Q : α → PH → Prop} (hu : P.underlying t = some d) (f : Bool → Sem α) : SemH P (isAgg t >>= f) h Q = SemH P (f (!flatD d)) h Q := by
  unfold isAgg
  rw [bind_assoc, semH_und hu]
  cases d <;> rfl
theorem loadAt_cell {d : TypeDesc} {a : Addr} (hu : P.underlying t = some d) (hd : flatD d = true) : SemE P h (Instr.loadAt t (.pointer (some a))) = cellH h a := by
  show SemE P h (loadVar t a) = _
  unfold loadVar
  rw [semE_agg hu, hd]
  show (cellH h a).bind (fun v => some v) = _
  cases cellH h a <;> rfl
theorem semE_loadCellsFrom {b o : Nat} {c : Array Value} {e : TypeId} {fr : Nat × Nat} (hb : h b = some (.cells c e fr)) : ∀ (n i : Nat) (acc : Array Value), o + i + n ≤ c.size →
    SemE P h (loadCellsFrom ⟨b, o, none⟩ i n acc) = some (acc ++ c.extract (o + i) (o + i + n)) := by
  intro n
  induction n with
  | zero => intro i acc _; simp [loadCellsFrom, SemE, pure]; omega
  | succ n ih =>
    intro i acc hle
    show (cellH h ((⟨b, o, none⟩ : Addr).add i)).bind (fun v => SemE P h (loadCellsFrom ⟨b, o, none⟩ (i + 1) n (acc.push v))) = _
    have hlt : o + i < c.size := by omega
    have hc : cellH h ((⟨b, o, none⟩ : Addr).add i) = some c[o + i] := by
      rw [plain_add]; unfold cellH; simp only [hb]; simp [hlt]
    rw [hc, Option.bind_some, ih (i + 1) _ (by omega)]
    congr 1
    apply Array.ext'
    simp only [Array.toList_append, Array.toList_push, Array.toList_extract, List.append_assoc, List.extract_eq_take_drop]
    congr 1
    rw [show o + i + (n + 1) - (o + i) = n + 1 from by omega, show o + (i + 1) + n - (o + (i + 1)) = n from by omega, List.drop_eq_getElem_cons (l := c.toList) (i := o + i) (by simpa using hlt), List.take_succ_cons]
    rfl
theorem semE_loadCells {b o n : Nat} {c : Array Value} {e : TypeId} {fr : Nat × Nat} (hb : h b = some (.cells c e fr)) (hle : o + n ≤ c.size) : SemE P h (loadCells ⟨b, o, none⟩ n) = some (c.extract o (o + n)) := by
  have := semE_loadCellsFrom (P := P) hb n 0 #[] hle
  simpa [loadCells] using this
theorem semE_bind {α β : Type} {s : Sem α} {f : α → Sem β} : SemE P h (s >>= f) = (SemE P h s).bind fun a => SemE P h (f a) := by
  show SemE P h (s.bind f) = _
  induction s with
  | pure a => rfl
  | load m a k ih => simp only [Sem.bind, SemE, ih, Option.bind_assoc]
  | shape r k ih => simp only [Sem.bind, SemE, ih, Option.bind_assoc]
  | frozen a k ih => simp only [Sem.bind, SemE, ih, Option.bind_assoc]
  | getObj r k ih =>
    simp only [Sem.bind, SemE]
    cases h r with
    | none => rfl
    | some o => cases o <;> first | rfl | exact ih _
  | program k ih => exact ih P
  | mark m k ih => exact ih
  | _ => rfl
theorem loadAt_agg {d : TypeDesc} {b o n : Nat} {c : Array Value} {e : TypeId} {fr : Nat × Nat} {i : TypeInfo} (hu : P.underlying t = some d) (hd : flatD d = false) (hi : P.info? t = some i) (hn : i.size = n)
    (hb : h b = some (.cells c e fr)) (hle : o + n ≤ c.size) : SemE P h (Instr.loadAt t (.pointer (some ⟨b, o, none⟩))) = some (.agg (c.extract o (o + n))) := by
  show SemE P h (loadVar t ⟨b, o, none⟩) = _
  unfold loadVar
  rw [semE_agg hu, hd]
  show SemE P h (sizeOf t >>= fun m => loadCells ⟨b, o, none⟩ m >>= fun cs => (pure (Value.agg cs) : Sem Value)) = some (.agg (c.extract o (o + n)))
  rw [sizeOf_bind, semE_info hi, hn, semE_bind, semE_loadCells hb hle]
  rfl
theorem fieldAt_eq {fs : Array Field} {f : Field} {k b o : Nat} {i : TypeInfo} (hu : P.underlying t = some (.struct fs)) (hf : fs[k]? = some f) (hi : P.info? f.type = some i) (hn : i.size ≠ 0) :
    SemP P (Instr.fieldAt t (.pointer (some ⟨b, o, none⟩)) k) = some (.pointer (some ⟨b, o + f.offset, none⟩)) := by
  show SemP P (underlying t >>= _) = _
  rw [semP_und hu]
  simp only [hf]
  show SemP P ((fieldPlace ⟨b, o, none⟩ f) >>= fun x => (pure (Value.pointer (some x)) : Sem Value)) = _
  unfold fieldPlace
  rw [sizeOf_bind, bind_assoc, semP_info hi, if_neg hn]
  rw [plain_add]; rfl
theorem indexAt_slice {b o n len cap : Nat} {k : IntKind} {j : Int} {i : TypeInfo} (hu : P.underlying t = some (.slice e)) (hi : P.info? e = some i) (hn : i.size = n) (h0 : 0 ≤ j) (h1 : j < len) :
    SemP P (Instr.indexAt t (.slice (some ⟨b, o, none⟩) len cap) (.int k j)) = some (.pointer (some ⟨b, o + j.toNat * n, none⟩)) := by
  show SemP P (underlying t >>= _) = _
  rw [semP_und hu]
  show SemP P (underlying t >>= _) = _
  rw [semP_und hu]
  simp only [h0, h1, and_self, if_true]
  rw [sizeOf_bind, semP_info hi, hn, plain_add]; rfl
end
end Go.Proofs.YtllopddcpkhfjaaDoor
