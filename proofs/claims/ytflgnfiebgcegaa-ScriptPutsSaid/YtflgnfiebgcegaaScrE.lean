/- script: the entries that bytes have. -/
import Derived.Test.YtflgnfiebgcegaaScrG
set_option linter.unusedSimpArgs false
set_option linter.unusedVariables false
namespace Go.Proofs.Ytflgnfiebgcegaa
open Go
set_option maxRecDepth 20000
theorem get_all {h : PH} {a r K : Nat} {s : List UInt8} (hK : K < 9) (hR : RdAt h a 0 s) (hB : ABox h r (Act.zero K) (.slice none 0 0)) (hne : r ≠ a) {k : Value → PH → Prop} (hk : GNext h a r (gAct K (0, s)).1 (gAct K (0, s)).2 (k (.tuple #[]))) : callC PG (fn (getF K)) #[.pointer (some ⟨a, 0, none⟩), .pointer (some ⟨r, 0, none⟩)] h k := by
  have : K = 0 ∨ K = 1 ∨ K = 2 ∨ (K = 3 ∨ K = 4 ∨ K = 5 ∨ K = 7) ∨ K = 6 ∨ K = 8 := by omega
  rcases this with rfl | rfl | rfl | h4 | rfl | rfl
  · exact get0_ok hR hB hne hk
  · exact get1_ok hR hB hne hk
  · exact get2_ok hR hB hk
  · exact getN_ok h4 hR hB hne hk
  · exact get6_ok hR hB hne hk
  · exact get8_ok hR hB hne hk

/-! ### what is left is an end of what was -/
theorem suf_drop {a b : List UInt8} (h : a <:+ b) : b.drop (b.length - a.length) = a := by
  obtain ⟨t, rfl⟩ := h; simp
theorem rRaw_suf (st : Stt) (n : Int) : (rRaw st n).2.2 <:+ st.2 := by
  unfold rRaw; split
  · exact List.drop_suffix ..
  · exact List.suffix_refl _
theorem rGet_suf (st : Stt) (n : Nat) : (rGet st n).2.2 <:+ st.2 := rRaw_suf st n
theorem rText_suf (st : Stt) : (rText st).2.2 <:+ st.2 := (rRaw_suf _ _).trans (rGet_suf st 2)
theorem rTwo_suf (st : Stt) : (rTwo st).2.2 <:+ st.2 := (rGet_suf _ _).trans (rGet_suf st 1)
theorem gWr_suf : ∀ (n : Nat) (st : Stt), (gWr n st).2.2 <:+ st.2
  | 0, st => List.suffix_refl _
  | n + 1, st => by
    unfold gWr
    split
    · exact List.suffix_refl _
    · exact (gWr_suf n _).trans ((rTwo_suf _).trans (rGet_suf _ _))
theorem gForge_suf (st : Stt) : (gForge st).2.2 <:+ st.2 := by
  unfold gForge
  exact (rText_suf _).trans ((rText_suf _).trans ((rGet_suf _ _).trans ((rGet_suf _ _).trans ((rGet_suf _ _).trans ((rGet_suf _ _).trans ((rGet_suf _ _).trans (rGet_suf _ _)))))))
theorem gAct_suf (k : Nat) (st : Stt) : (gAct k st).2.2 <:+ st.2 := by
  unfold gAct
  split
  · exact (rText_suf _).trans ((rGet_suf _ _).trans (rGet_suf _ _))
  · exact rGet_suf _ _
  · exact List.suffix_refl _
  · exact gForge_suf _
  · exact (gWr_suf _ _).trans (rGet_suf _ _)
  · exact rGet_suf _ _

/-! ### entries -/
structure En where
  act : Act
  err : Int
  deriving DecidableEq
abbrev EnV := En × Value
def erow (p : EnV) : List Value := p.1.act.cells p.2 ++ [.int .i64 p.1.err]
theorem erow.rows (l : List EnV) : Rows 15 (l.map erow) := fun r hr => by
  obtain ⟨m, _, rfl⟩ := List.mem_map.1 hr; rfl
def entF : Nat → List UInt8 → List En
  | 0, _ => []
  | _, [] => []
  | n + 1, b :: s => if 9 ≤ b.toNat then ⟨Act.zero 0, 5⟩ :: entF n s else
    if (gAct b.toNat (0, s)).2.1 ≠ 0 then [⟨Act.zero 0, 6⟩] else ⟨(gAct b.toNat (0, s)).1, 0⟩ :: entF n (gAct b.toNat (0, s)).2.2
def entL (s : List UInt8) : List En := entF s.length s
theorem entF_fuel : ∀ (n m : Nat) (s : List UInt8), s.length ≤ n → s.length ≤ m → entF n s = entF m s
  | 0, m, s, h, _ => by
    have : s = [] := List.length_eq_zero_iff.1 (by omega)
    subst this; cases m <;> rfl
  | n + 1, 0, s, _, h => by
    have : s = [] := List.length_eq_zero_iff.1 (by omega)
    subst this; rfl
  | n + 1, m + 1, [], _, _ => rfl
  | n + 1, m + 1, b :: s, h, h' => by
    simp only [List.length_cons] at h h'
    have hs := (gAct_suf b.toNat (0, s)).length_le
    simp only at hs
    unfold entF
    rw [entF_fuel n m s (by omega) (by omega), entF_fuel n m _ (show (gAct b.toNat (0, s)).2.2.length ≤ n by omega) (by omega)]
theorem entL_nil : entL [] = [] := rfl
theorem entL_cons (b : UInt8) (s : List UInt8) : entL (b :: s) = if 9 ≤ b.toNat then ⟨Act.zero 0, 5⟩ :: entL s else
    if (gAct b.toNat (0, s)).2.1 ≠ 0 then [⟨Act.zero 0, 6⟩] else ⟨(gAct b.toNat (0, s)).1, 0⟩ :: entL (gAct b.toNat (0, s)).2.2 := by
  have hs := (gAct_suf b.toNat (0, s)).length_le
  simp only at hs
  unfold entL
  rw [List.length_cons, entF, entF_fuel s.length (gAct b.toNat (0, s)).2.2.length _ hs (Nat.le_refl _)]
/-- Entries in memory: those beyond the blocks F. -/
def EW (h : PH) (F : List Nat) (l : List EnV) : Prop := ∀ p ∈ l, ∃ Fv, OwnR h T_api_Write 2 p.2 (p.1.act.writes.map Wr.cells) Fv ∧ ∀ b ∈ Fv, b ∉ F
theorem EW.upd {h h' : PH} {F F' : List Nat} {l : List EnV} (H : EW h F l) (u : Upd F h h') (hF : ∀ b ∈ F', b ∈ F ∨ h b = none) : EW h' F' l := fun p hp => by
  obtain ⟨Fv, hO, hd⟩ := H p hp
  refine ⟨Fv, hO.upd u hd, fun b hb hb' => ?_⟩
  rcases hF b hb' with h1 | h1
  · exact hd b hb h1
  · exact hO.known b hb h1
theorem EW.ext {h h' : PH} {F : List Nat} {l : List EnV} (H : EW h F l) (u : Ext h h') : EW h' F l := H.upd u.upd fun b hb => .inl hb
theorem EW.cells {h : PH} {F : List Nat} {l : List EnV} (H : EW h F l) : ∀ r ∈ l.map erow, ∀ u ∈ r, isCell u = true := fun r hr u hu => by
  obtain ⟨p, hp, rfl⟩ := List.mem_map.1 hr
  obtain ⟨Fv, hO, _⟩ := H p hp
  simp only [erow, Act.cells, Msg.cells, List.cons_append, List.nil_append, List.mem_cons, List.not_mem_nil, or_false] at hu
  rcases hu with rfl | rfl | rfl | rfl | rfl | rfl | rfl | rfl | rfl | rfl | rfl | rfl | rfl | rfl | rfl <;> first | rfl | exact hO.cell
theorem EW.one {h : PH} {p : EnV} {Fv : List Nat} {F : List Nat} (hO : OwnR h T_api_Write 2 p.2 (p.1.act.writes.map Wr.cells) Fv) (hd : ∀ b ∈ Fv, b ∉ F) : EW h F [p] := fun q hq => by
  simp only [List.mem_cons, List.not_mem_nil, or_false] at hq; subst hq; exact ⟨Fv, hO, hd⟩
theorem EW.append {h : PH} {F : List Nat} {l m : List EnV} (H : EW h F l) (H' : EW h F m) : EW h F (l ++ m) := fun p hp => by
  rcases List.mem_append.1 hp with h1 | h1
  · exact H p h1
  · exact H' p h1
theorem entE_build (n : Int) : SemP PG (Instr.build T_script_Entry #[(1, .int .i64 n)]) = some (.agg (erow (⟨Act.zero 0, n⟩, .slice none 0 0)).toArray) := by kernel_rfl
theorem entE_lit (n : Int) : SemA PG (Instr.buildSlice T_sl_script_Entry 1 #[(0, .agg (erow (⟨Act.zero 0, n⟩, .slice none 0 0)).toArray)]) = some (.cells (erow (⟨Act.zero 0, n⟩, .slice none 0 0)).toArray T_script_Entry, fun r => pure (.slice (some ⟨r, 0, none⟩) 1 1)) := by kernel_rfl
theorem entA_build (A : Act) (v : Value) : SemP PG (Instr.build T_script_Entry #[(0, .agg (A.cells v).toArray)]) = some (.agg (erow (⟨A, 0⟩, v)).toArray) := by kernel_rfl
theorem entA_lit (A : Act) (v : Value) : SemA PG (Instr.buildSlice T_sl_script_Entry 1 #[(0, .agg (erow (⟨A, 0⟩, v)).toArray)]) = some (.cells (erow (⟨A, 0⟩, v)).toArray T_script_Entry, fun r => pure (.slice (some ⟨r, 0, none⟩) 1 1)) := by kernel_rfl
theorem ent_app {h : PH} {v : Value} {xs : List EnV} {F : List Nat} (hO : OwnR h T_script_Entry 15 v (xs.map erow) F) (hE : EW h F xs) (hl : xs.length ≤ 100000000) (p : EnV) {Fv : List Nat} (hOv : OwnR h T_api_Write 2 p.2 (p.1.act.writes.map Wr.cells) Fv) (hd : ∀ b ∈ Fv, b ∉ F) {k : Value → PH → Prop}
    (hk : ∀ v' h' F', OwnR h' T_script_Entry 15 v' ((xs ++ [p]).map erow) F' → EW h' F' (xs ++ [p]) → Upd F h h' → (∀ b ∈ F', b ∈ F ∨ h b = none) → k v' h') {r : Nat} (hr : h r = none) :
    SemH PG (Builtin.append_ #[T_sl_script_Entry, T_sl_script_Entry] T_sl_script_Entry #[v, .slice (some ⟨r, 0, none⟩) 1 1]) (h.set r (.cells (erow p).toArray T_script_Entry)) k := by
  have u1 : Ext h (h.set r (.cells (erow p).toArray T_script_Entry)) := Upd.new hr
  have s1 : SlR (h.set r (.cells (erow p).toArray T_script_Entry)) 15 (.slice (some ⟨r, 0, none⟩) 1 1) ([p].map erow) := (OwnR.lit (erow.rows [p]) set_same (by simp) (by decide) (by simp)).slR
  refine append_own T_sl_script_Entry.und T_sl_script_Entry.und T_script_Entry.info T_script_Entry.size T_script_Entry.bytes T_script_Entry.zero rfl (by decide) (hO.ext u1) s1 (EW.cells (EW.one hOv hd)) (by simp; omega) ?_
  intro v2 h2 F2 hO2 u2 k2 _
  rw [← List.map_append] at hO2
  have k3 : ∀ b ∈ F2, b ∈ F ∨ h b = none := fun b hb => by
    rcases k2 b hb with h' | h'
    · exact .inl h'
    · exact .inr (u1.none h')
  exact hk v2 h2 F2 hO2 ((hE.append (EW.one hOv hd)).upd (u1.upd.trans u2) k3) (u1.upd.trans u2) k3
end Go.Proofs.Ytflgnfiebgcegaa
