/- The texts of this claim, put together. -/
import Derived.Test.YtcoajnpchhmgjaaGreatDoorChFVC3
import Derived.WalkKit
import Derived.ProofKit
import Derived.ChangeMaps5
import Derived.Lib.UnsafeStr
set_option linter.unusedSimpArgs false
set_option linter.unusedVariables false
set_option linter.unusedSectionVars false
namespace Go.Proofs.YtcoajnpchhmgjaaGreatDoor
open Go
theorem i64_wrap {x : Int} (h1 : -9223372036854775808 ≤ x) (h2 : x ≤ 9223372036854775807) : IntKind.i64.wrap x = x := IntWalk.i64_in _ ⟨h1, h2⟩
def upTo (n : Nat) (i : Nat) : List Value → PH → Nat := fun vs _ => match vs[i]? with
  | some (.int _ j) => n - j.toNat
  | _ => 0
def Fresh (h : PH) (F : List Nat) : Prop := ∀ b ∈ F, h b = none
theorem Fresh.one {h : PH} {a : Nat} (ha : h a = none) : Fresh h [a] := fun b hb => by simp at hb; subst hb; exact ha
theorem Ext.none {h h1 : PH} (u : Ext h h1) {b : Nat} (hb : h1 b = none) : h b = none := by
  cases e : h b with
  | none => rfl
  | some o => rw [u.get e] at hb; cases hb
theorem Fresh.grow {h h1 : PH} {F F' : List Nat} (f : Fresh h F) (u : Ext h h1) (hg : ∀ b ∈ F', b ∈ F ∨ h1 b = none) : Fresh h F' := fun b hb => by
  rcases hg b hb with h1 | h1
  · exact f b h1
  · exact u.none h1
theorem Fresh.of {h h1 : PH} {F : List Nat} (f : Fresh h1 F) (u : Ext h h1) : Fresh h F := fun b hb => u.none (f b hb)
theorem Ext.trans {h h1 h2 : PH} (u : Ext h h1) (v : Ext h1 h2) : Ext h h2 := Upd.trans u v
theorem Ext.fresh {h h1 h2 : PH} {F : List Nat} (u : Ext h h1) (v : Upd F h1 h2) (f : Fresh h F) : Ext h h2 := fun b o hb _ =>
  v b o (u.get hb) fun hm => by rw [f b hm] at hb; cases hb
theorem OwnR.ext {h h' : PH} {e : TypeId} {size : Nat} {v : Value} {rows : List (List Value)} {F : List Nat} (H : OwnR h e size v rows F) (u : Ext h h') : OwnR h' e size v rows F := H.upd u (by simp)
theorem popO_pure {α : Type} {v : α} {k : α → Prop} (hk : k v) : popO (SemP PG (pure v)) k := hk
theorem u64_wrap {x : Int} (h1 : 0 ≤ x) (h2 : x < 18446744073709551616) : IntKind.u64.wrap x = x := by
  unfold IntKind.wrap
  simp [IntKind.signed, IntKind.bits]
  omega
theorem u8_wrap (x : Int) : IntKind.u8.wrap x = x % 256 := by
  unfold IntKind.wrap
  simp [IntKind.signed, IntKind.bits]
theorem yV_undef : yV undef = none := (rfl)
theorem gopV_none {X : (Value → PH → Prop) → Prop} {h : PH} {kv : Value → PH → Prop} {w : Bool} : gopV none w X h kv = kv undef h := by simp [gopV]
end Go.Proofs.YtcoajnpchhmgjaaGreatDoor
namespace Go.Proofs.YtcoajnpchhmgjaaGreatDoor
open Go
theorem zSS : type_of% @popO_some ∧ type_of% @bindH_eq ∧ type_of% @condV_bool ∧ type_of% @condV_true ∧ type_of% @condV_false ∧ type_of% @yV_bool ∧ type_of% @gopV_tt ∧ type_of% @gopV_ff ∧ type_of% @gopV_tf ∧ type_of% @gopV_ft ∧ type_of% @pickV_t ∧ type_of% @pickV_f ∧ type_of% @pickV_bool ∧ type_of% @nilS_ptr ∧ type_of% @add_eq ∧ type_of% @sub_eq ∧ type_of% @mul_eq ∧ type_of% @lss_eq ∧ type_of% @leq_eq ∧ type_of% @gtr_eq ∧ type_of% @geq_eq ∧ type_of% @not_eq ∧ type_of% @minI_eq ∧ type_of% @maxI_eq ∧ type_of% @extract_0 ∧ type_of% @extract_1 ∧ type_of% @extract_2 ∧ type_of% @eqlI ∧ type_of% @neqI ∧ type_of% @makeFunc_eq ∧ type_of% @decide_true ∧ type_of% @decide_false ∧ type_of% @if_true.{0} ∧ type_of% @if_true.{1} ∧ type_of% @if_false.{0} ∧ type_of% @if_false.{1} ∧ type_of% @Bool.false_eq_true ∧ type_of% @Bool.not_true ∧ type_of% @Bool.not_false ∧ type_of% @List.getElem?_toArray.{0} ∧ type_of% @List.getElem?_cons_zero.{0} ∧ type_of% @List.getElem?_cons_succ.{0} ∧ type_of% @Option.isSome_none.{0} ∧ type_of% @List.length_map.{0,0} := ⟨@popO_some, @bindH_eq, @condV_bool, @condV_true, @condV_false, @yV_bool, @gopV_tt, @gopV_ff, @gopV_tf, @gopV_ft, @pickV_t, @pickV_f, @pickV_bool, @nilS_ptr, @add_eq, @sub_eq, @mul_eq, @lss_eq, @leq_eq, @gtr_eq, @geq_eq, @not_eq, @minI_eq, @maxI_eq, @extract_0, @extract_1, @extract_2, @eqlI, @neqI, @makeFunc_eq, @decide_true, @decide_false, @if_true.{0}, @if_true.{1}, @if_false.{0}, @if_false.{1}, @Bool.false_eq_true, @Bool.not_true, @Bool.not_false, @List.getElem?_toArray.{0}, @List.getElem?_cons_zero.{0}, @List.getElem?_cons_succ.{0}, @Option.isSome_none.{0}, @List.length_map.{0,0}⟩
theorem zZZ : type_of% @yV_undef ∧ type_of% @gopV_none ∧ type_of% @Nat.zero_add ∧ type_of% @beq_self_eq_true.{0} ∧ type_of% @bne_self_eq_false.{0} ∧ type_of% @and_self ∧ type_of% @Bool.true_and ∧ type_of% @Bool.false_and ∧ type_of% @Bool.and_true ∧ type_of% @Bool.and_false ∧ type_of% @Bool.true_or ∧ type_of% @Bool.false_or ∧ type_of% @Bool.or_true ∧ type_of% @Bool.or_false := ⟨@yV_undef, @gopV_none, @Nat.zero_add, @beq_self_eq_true.{0}, @bne_self_eq_false.{0}, @and_self, @Bool.true_and, @Bool.false_and, @Bool.and_true, @Bool.and_false, @Bool.true_or, @Bool.false_or, @Bool.or_true, @Bool.or_false⟩
end Go.Proofs.YtcoajnpchhmgjaaGreatDoor
namespace Go.Proofs.YtcoajnpchhmgjaaGreatDoor
open Go Go.RowKit Go.ChangeShapes
theorem kidsPG : Kids PG (· < PG.types.size) := kids_rows (by kernel_rfl) (by kernel_rfl)
theorem fullPG : ∀ t e, t < PG.types.size → PG.underlying t = some (.slice e) → 0 < PG.cellsOf e := slices_full_of PG (by kernel_rfl)
theorem open_any {H : Type} {enc : TypeId × Value → H} {P : Program} {w : World} {spare : Nat → Bool} {held : Bool} {t : TypeId} {v : Value} {d : DataW H} {p : List MemPlace} (hd : DataW.Trod enc P w 0 spare held t v d p) : Rd enc P w spare held t v.cells.toList := by
  obtain ⟨k, hk⟩ := hd; exact ⟨k, _, hk⟩
theorem wf_u64 {n : Int} (h : (Lit.int .u64 n).wf = true) : 0 ≤ n ∧ n < 18446744073709551616 := by
  simp [Lit.wf, IntKind.min, IntKind.max, IntKind.signed, IntKind.bits] at h
  omega
end Go.Proofs.YtcoajnpchhmgjaaGreatDoor
namespace Go.Proofs.YtcoajnpchhmgjaaGreatDoor
open Go
abbrev Asrt := PH → List Nat → Prop
structure Good (A : Asrt) : Prop where
  known : ∀ {h F}, A h F → ∀ b ∈ F, h b ≠ none
  upd : ∀ {h h' F K}, A h F → Upd K h h' → (∀ b ∈ F, b ∉ K) → A h' F
def star (A B : Asrt) : Asrt := fun h F => ∃ Fa Fb, F = Fa ++ Fb ∧ A h Fa ∧ B h Fb ∧ ∀ b ∈ Fa, b ∉ Fb
theorem Good.star {A B : Asrt} (a : Good A) (b : Good B) : Good (star A B) where
  known := by
    rintro h F ⟨Fa, Fb, rfl, ha, hb, -⟩ x hx
    rcases List.mem_append.1 hx with hx | hx
    · exact a.known ha x hx
    · exact b.known hb x hx
  upd := by
    rintro h h' F K ⟨Fa, Fb, rfl, ha, hb, hd⟩ u hK
    exact ⟨Fa, Fb, rfl, a.upd ha u fun x hx => hK x (by simp [hx]), b.upd hb u fun x hx => hK x (by simp [hx]), hd⟩
theorem Good.ext {A : Asrt} (a : Good A) {h h' : PH} {F : List Nat} (H : A h F) (u : Ext h h') : A h' F := a.upd H u (by simp)
structure Step (h : PH) (F : List Nat) (h' : PH) (F' : List Nat) : Prop where
  upd : Upd F h h'
  grow : ∀ b ∈ F', b ∈ F ∨ h b = none
theorem Step.refl {h : PH} {F : List Nat} : Step h F h F := ⟨Upd.refl, fun b hb => .inl hb⟩
theorem Step.ext {h h' : PH} {F : List Nat} (u : Ext h h') : Step h F h' F := ⟨u.upd, fun b hb => .inl hb⟩
theorem Step.trans {h h1 h2 : PH} {F F1 F2 : List Nat} (a : Step h F h1 F1) (b : Step h1 F1 h2 F2) : Step h F h2 F2 where
  upd := a.upd.then b.upd a.grow
  grow := fun x hx => by
    rcases b.grow x hx with hx | hx
    · exact a.grow x hx
    · by_cases hF : x ∈ F
      · exact .inl hF
      · right
        cases e : h x with
        | none => rfl
        | some o => have := a.upd x o e hF; rw [hx] at this; cases this
def Focus (h : PH) (F : List Nat) (A : Asrt) (W : Asrt → Asrt) : Prop :=
  ∃ Fa, A h Fa ∧ (∀ b ∈ Fa, b ∈ F) ∧ ∀ (A' : Asrt) (h' : PH) (Fa' : List Nat), A' h' Fa' → Step h Fa h' Fa' → ∃ F', W A' h' F' ∧ Step h F h' F'
theorem star.left {A B : Asrt} (b : Good B) {h : PH} {F : List Nat} (H : (star A B) h F) : Focus h F A (fun A' => star (A') B) := by
  obtain ⟨Fa, Fb, rfl, ha, hb, hd⟩ := H
  refine ⟨Fa, ha, fun x hx => by simp [hx], fun A' h' Fa' hA s => ⟨Fa' ++ Fb, ⟨Fa', Fb, rfl, hA, b.upd hb s.upd (fun x hx hx' => hd x hx' hx), fun x hx hx' => ?_⟩, ⟨fun x o hx hn => s.upd x o hx (fun hm => hn (by simp [hm])), fun x hx => ?_⟩⟩⟩
  · rcases s.grow x hx with h1 | h1
    · exact hd x h1 hx'
    · exact b.known hb x hx' h1
  · rcases List.mem_append.1 hx with hx | hx
    · rcases s.grow x hx with h1 | h1
      · exact .inl (by simp [h1])
      · exact .inr h1
    · exact .inl (by simp [hx])
theorem star.right {A B : Asrt} (a : Good A) {h : PH} {F : List Nat} (H : (star A B) h F) : Focus h F B (fun B' => star A (B')) := by
  obtain ⟨Fa, Fb, rfl, ha, hb, hd⟩ := H
  refine ⟨Fb, hb, fun x hx => by simp [hx], fun B' h' Fb' hB s => ⟨Fa ++ Fb', ⟨Fa, Fb', rfl, a.upd ha s.upd (fun x hx hx' => hd x hx hx'), hB, fun x hx hx' => ?_⟩, ⟨fun x o hx hn => s.upd x o hx (fun hm => hn (by simp [hm])), fun x hx => ?_⟩⟩⟩
  · rcases s.grow x hx' with h1 | h1
    · exact hd x hx h1
    · exact a.known ha x hx h1
  · rcases List.mem_append.1 hx with hx | hx
    · exact .inl (by simp [hx])
    · rcases s.grow x hx with h1 | h1
      · exact .inl (by simp [h1])
      · exact .inr h1
theorem Focus.comp {h : PH} {F : List Nat} {A B : Asrt} {W V : Asrt → Asrt} (f : Focus h F A W) (g : ∀ Fa, A h Fa → Focus h Fa B V) : Focus h F B (fun B' => W (V B')) := by
  obtain ⟨Fa, ha, hFa, c⟩ := f
  obtain ⟨Fb, hb, hFb, d⟩ := g Fa ha
  refine ⟨Fb, hb, fun x hx => hFa x (hFb x hx), fun B' h' Fb' hB s => ?_⟩
  obtain ⟨Fa', hV, s'⟩ := d B' h' Fb' hB s
  exact c _ h' Fa' hV s'
def box (r : Nat) (cs : List Value) : Asrt := fun h F => F = [r] ∧ Bx h r cs
theorem box.good (r : Nat) (cs : List Value) : Good (box r cs) where
  known := by
    rintro h F ⟨rfl, B⟩ b hb
    simp only [List.mem_singleton] at hb
    subst hb; exact B.known
  upd := by
    rintro h h' F K ⟨rfl, B⟩ u hK
    exact ⟨rfl, B.upd u (hK r (by simp))⟩
def owned (e : TypeId) (n : Nat) (v : Value) (rows : List (List Value)) : Asrt := fun h F => OwnR h e n v rows F
theorem owned.good (e : TypeId) (n : Nat) (v : Value) (rows : List (List Value)) : Good (owned e n v rows) where
  known := fun H b hb => OwnR.known H b hb
  upd := fun H u hK => OwnR.upd H u hK
theorem star.mk {A B : Asrt} {h : PH} {Fa Fb : List Nat} (ha : A h Fa) (hb : B h Fb) (hd : ∀ b ∈ Fa, b ∉ Fb) : (star A B) h (Fa ++ Fb) := ⟨Fa, Fb, rfl, ha, hb, hd⟩
end Go.Proofs.YtcoajnpchhmgjaaGreatDoor
namespace Go.Proofs.YtcoajnpchhmgjaaGreatDoor
open Go
section
variable {P : Program} {h : PH} {t t' kt et : TypeId} {α : Type} [DecidableEq α] {enc : α → Value}
def delM (l : List (α × Value)) (a : α) : List (α × Value) := l.filter fun p => decide (p.1 ≠ a)
theorem erase_filter {β : Type} : ∀ (L : List (α × β)) (a : α) (q : Nat), (L.map (·.1)).Nodup → (L.map (·.1))[q]? = some a → L.eraseIdx q = L.filter fun p => decide (p.1 ≠ a)
  | [], a, q, _, hq => by simp at hq
  | p :: ps, a, 0, hnd, hq => by
    simp only [List.map_cons, List.getElem?_cons_zero, Option.some.injEq] at hq
    simp only [List.map_cons, List.nodup_cons] at hnd
    simp only [List.eraseIdx_cons_zero, List.filter_cons, hq, ne_eq, not_true, decide_false, Bool.false_eq_true, if_false]
    symm
    rw [List.filter_eq_self]
    intro x hx
    simp only [decide_eq_true_eq]
    rintro e
    exact hnd.1 (by rw [hq, ← e]; exact List.mem_map_of_mem hx)
  | p :: ps, a, q + 1, hnd, hq => by
    simp only [List.map_cons, List.getElem?_cons_succ] at hq
    simp only [List.map_cons, List.nodup_cons] at hnd
    have hne : p.1 ≠ a := fun e => hnd.1 (by rw [e]; exact List.mem_of_getElem? hq)
    simp only [List.eraseIdx_cons_succ, List.filter_cons, hne, ne_eq, not_false_eq_true, decide_true, if_true]
    rw [erase_filter ps a q hnd.2 hq]
theorem eraseIdx_map {β γ : Type} (f : β → γ) : ∀ (L : List β) (q : Nat), (L.map f).eraseIdx q = (L.eraseIdx q).map f
  | [], _ => rfl
  | _ :: _, 0 => rfl
  | x :: xs, q + 1 => by simp only [List.map_cons, List.eraseIdx_cons_succ, eraseIdx_map f xs q]
theorem nodup_len {β : Type} : ∀ (D L : List β), D.Nodup → (∀ p ∈ D, p ∈ L) → D.length ≤ L.length
  | [], _, _, _ => Nat.zero_le _
  | p :: ps, L, hn, hs => by
    obtain ⟨a, b, rfl⟩ := List.append_of_mem (hs p (by simp))
    simp only [List.nodup_cons] at hn
    have := nodup_len ps (a ++ b) hn.2 fun q hq => by
      have := hs q (by simp [hq])
      simp only [List.mem_append, List.mem_cons] at this ⊢
      rcases this with h | rfl | h
      · exact .inl h
      · exact absurd hq hn.1
      · exact .inr h
    simp only [List.length_cons, List.length_append] at this ⊢
    omega
theorem findL_none {a : α} {L : List (α × Value × Nat)} (e2 : a ∉ L.map (·.1)) : (L.filter fun p => decide (p.1 ≠ a)) = L := by
  rw [List.filter_eq_self]
  intro x hx
  simp only [decide_eq_true_eq]
  rintro e
  exact e2 (by rw [← e]; exact List.mem_map_of_mem hx)
theorem del_map (L : List (α × Value × Nat)) (a : α) : delM (L.map fun p => (p.1, p.2.1)) a = (L.filter fun p => decide (p.1 ≠ a)).map fun p => (p.1, p.2.1) := by
  unfold delM
  rw [List.filter_map]; rfl
theorem map_del {r : Nat} {l : List (α × Value)} (K : Keyed P kt enc) (hu : P.underlying t = some (.map kt et)) (H : MapAt enc h r l) (a : α) {ts : Array TypeId} (hts : ts[0]? = some t) {k : Value → PH → Prop}
    (hk : ∀ h', MapAt enc h' r (delM l a) → Upd [r] h h' → k (.tuple #[]) h') : SemH P (Builtin.delete_ ts t' #[.map (some r), enc a]) h k := by
  obtain ⟨es, c, L, h1, h2, rfl, hb1, hb2⟩ := H.here
  have hnd := H.nodup
  rw [mem_keys] at hnd
  unfold Builtin.delete_
  simp only [hts, List.getElem?_toArray, List.getElem?_cons_zero, List.getElem?_cons_succ]
  show SemH P (underlying t >>= _) h _
  rw [semH_und hu]
  dsimp only
  refine semH_getMap h1 ?_
  dsimp only
  refine semH_of_semE (K.chk h _ a) ?_
  rw [h2]
  refine semH_of_semE (findKey_eq K a L) ?_
  have hnd2 : (keysM (delM (L.map fun p => (p.1, p.2.1)) a)).Nodup := by
    rw [del_map, mem_keys]
    exact List.Nodup.sublist (List.Sublist.map _ List.filter_sublist) hnd
  have hb3 : ((L.filter fun p => decide (p.1 ≠ a)).map (·.2.2)).Nodup := List.Nodup.sublist (List.Sublist.map _ List.filter_sublist) hb1
  have hb4 : ∀ p ∈ L.filter fun p => decide (p.1 ≠ a), p.2.2 < c := fun p hp => hb2 p (List.mem_filter.1 hp).1
  rcases findL_at a L 0 with ⟨q, w, e1, e2, e3⟩ | ⟨e1, e2⟩
  · rw [e1, Nat.zero_add]
    show (∃ u, h r = some u ∧ (∀ c e f, u ≠ .cells c e f)) ∧ _
    refine ⟨⟨_, h1, by intros; simp⟩, ?_⟩
    show k (.tuple #[]) _
    refine hk _ ⟨hnd2, _, c, L.filter (fun p => decide (p.1 ≠ a)), set_same, ?_, del_map L a, hb3, hb4⟩ (Upd.set (by simp))
    rw [← erase_filter L a q hnd e2]
    have hq : q < es.size := by
      rw [← Array.length_toList, h2]
      have := (List.getElem?_eq_some_iff.1 e2).1
      simpa [ents] using this
    rw [Array.eraseIdxIfInBounds, dif_pos hq, Array.toList_eraseIdx, h2]
    unfold ents
    exact eraseIdx_map _ _ _
  · rw [e1]
    show (∃ u, h r = some u ∧ (∀ c e f, u ≠ .cells c e f)) ∧ _
    refine ⟨⟨_, h1, by intros; simp⟩, ?_⟩
    show k (.tuple #[]) _
    refine hk _ ⟨hnd2, _, c, L, set_same, h2, ?_, hb1, hb2⟩ (Upd.set (by simp))
    rw [del_map, findL_none e2]
structure MapIt (enc : α → Value) (h : PH) (r it : Nat) (l D : List (α × Value)) : Prop where
  nodup : (keysM l).Nodup
  here : ∃ (es : Array MapEntry) (c : Nat) (L DL : List (α × Value × Nat)) (S : Array Nat), h r = some (.map es c) ∧ es.toList = ents enc L ∧ l = L.map (fun p => (p.1, p.2.1)) ∧ (L.map (·.2.2)).Nodup ∧ (∀ p ∈ L, p.2.2 < c) ∧
    h it = some (.mapIter (some r) c S c) ∧ S.toList = DL.map (·.2.2) ∧ (∀ p ∈ DL, p ∈ L) ∧ DL.Nodup ∧ D = DL.map (fun p => (p.1, p.2.1))
theorem MapIt.upd {h h' : PH} {r it : Nat} {l D : List (α × Value)} {G : List Nat} (H : MapIt enc h r it l D) (u : Upd G h h') (hr : r ∉ G) (hi : it ∉ G) : MapIt enc h' r it l D := by
  obtain ⟨es, c, L, DL, S, h1, h2, h3, h4, h5, h6, h7⟩ := H.here
  exact ⟨H.nodup, es, c, L, DL, S, u.get h1 hr, h2, h3, h4, h5, u.get h6 hi, h7⟩
theorem MapIt.map {r it : Nat} {l D : List (α × Value)} (H : MapIt enc h r it l D) : MapAt enc h r l := by
  obtain ⟨es, c, L, DL, S, h1, h2, h3, h4, h5, _⟩ := H.here
  exact ⟨H.nodup, es, c, L, h1, h2, h3, h4, h5⟩
theorem MapIt.known {r it : Nat} {l D : List (α × Value)} (H : MapIt enc h r it l D) : h it ≠ none := by
  obtain ⟨es, c, L, DL, S, h1, h2, h3, h4, h5, h6, _⟩ := H.here; rw [h6]; simp
def itLeft (n : Nat) (it : Nat) (h : PH) : Nat := match h it with
  | some (.mapIter _ _ S _) => n - S.size
  | _ => 0
theorem MapIt.left {r it : Nat} {l D : List (α × Value)} (H : MapIt enc h r it l D) (n : Nat) : itLeft n it h = n - D.length := by
  obtain ⟨es, c, L, DL, S, h1, h2, h3, h4, h5, h6, h7, _, _, h8⟩ := H.here
  unfold itLeft
  rw [h6]
  have : S.size = D.length := by rw [← Array.length_toList, h7, h8]; simp
  simp only [this]
theorem MapIt.le {r it : Nat} {l D : List (α × Value)} (H : MapIt enc h r it l D) : D.length ≤ l.length := by
  obtain ⟨es, c, L, DL, S, h1, h2, rfl, h4, h5, h6, h7, h9, h10, rfl⟩ := H.here
  rw [List.length_map, List.length_map]
  exact nodup_len _ _ h10 h9
theorem range_it {r : Nat} {l : List (α × Value)} (hu : P.underlying t = some (.map kt et)) (H : MapAt enc h r l) {k : Value → PH → Prop}
    (hk : ∀ it h', h it = none → MapIt enc h' r it l [] → Ext h h' → k (.pointer (some ⟨it, 0, none⟩)) h') : SemH P (Instr.range t (.map (some r))) h k := by
  obtain ⟨es, c, L, h1, h2, rfl, hb1, hb2⟩ := H.here
  unfold Instr.range
  show SemH P (underlying t >>= _) h _
  rw [semH_und hu]
  have key : ∀ (X : Sem Obj) (f : Obj → Sem Value), SemH P X h (fun o h' => SemH P (f o) h' k) → SemH P (X >>= f) h k := fun X f hX => SemH.bind (P := P) (s := X) hX
  refine key _ _ ?_
  refine semH_getMap h1 ?_
  intro it hit
  exact hk it _ hit ⟨H.nodup, es, c, L, [], #[], set_old hit h1, h2, rfl, hb1, hb2, set_same, rfl, by simp, by simp, rfl⟩ (Upd.new hit)
theorem nodup_of_map {β γ : Type} (f : β → γ) : ∀ {L : List β}, (L.map f).Nodup → L.Nodup
  | [], _ => List.nodup_nil
  | x :: xs, hnd => by
    simp only [List.map_cons, List.nodup_cons] at hnd ⊢
    exact ⟨fun hm => hnd.1 (List.mem_map_of_mem hm), nodup_of_map f hnd.2⟩
theorem nodup_inj {β γ : Type} {f : β → γ} : ∀ {L : List β}, (L.map f).Nodup → ∀ {p q : β}, p ∈ L → q ∈ L → f p = f q → p = q
  | [], _, p, q, hp, _, _ => by cases hp
  | x :: xs, hnd, p, q, hp, hq, e => by
    simp only [List.map_cons, List.nodup_cons] at hnd
    rcases List.mem_cons.1 hp with hp | hp
    · rcases List.mem_cons.1 hq with hq | hq
      · rw [hp, hq]
      · exact absurd (by rw [← hp, e]; exact List.mem_map_of_mem hq) hnd.1
    · rcases List.mem_cons.1 hq with hq | hq
      · exact absurd (by rw [← hq, ← e]; exact List.mem_map_of_mem hp) hnd.1
      · exact nodup_inj hnd.2 hp hq e
theorem semH_getO {r : Nat} {o : Obj} {β : Type} {Q : β → PH → Prop} (hr : h r = some o) (hc : ∀ c e f, o ≠ .cells c e f) {f : Obj → Sem β} (hq : SemH P (f o) h Q) : SemH P (getObj r >>= f) h Q := by
  show ∃ o, h r = some o ∧ (∀ c e f, o ≠ .cells c e f) ∧ SemH P _ h Q
  exact ⟨o, hr, hc, hq⟩
theorem next_it {r it : Nat} {l D : List (α × Value)} (H : MapIt enc h r it l D) {k : Value → PH → Prop}
    (hnil : D.Perm l → k (.tuple #[.bool false]) h)
    (hcons : ∀ a v h', (a, v) ∈ l → a ∉ keysM D → MapIt enc h' r it l (D ++ [(a, v)]) → Upd [it] h h' → k (.tuple #[.bool true, enc a, v]) h') : SemH P (Instr.next (.pointer (some ⟨it, 0, none⟩)) false t) h k := by
  obtain ⟨es, c, L, DL, S, h1, h2, h3, hb1, hb2, hi, hS, hDL, hDn, hD⟩ := H.here
  unfold Instr.next
  refine semH_getO hi (by intros; simp) ?_
  dsimp only
  refine semH_getMap h1 ?_
  dsimp only
  have hborn : ∀ e ∈ es.toList, e.born < c := fun e he => by
    rw [h2] at he
    obtain ⟨p, hp, rfl⟩ := List.mem_map.1 he
    exact hb2 p hp
  have hgo : (!S.isEmpty && !es.isEmpty && es.all (·.born ≥ c)) = false := by
    by_cases he : es.isEmpty = true
    · simp [he]
    · have : es.all (·.born ≥ c) = false := by
        rw [Bool.eq_false_iff]
        intro hall
        have hne : es.toList ≠ [] := by intro e; apply he; simpa using e
        obtain ⟨x, xs, hx⟩ := List.exists_cons_of_ne_nil hne
        have h1 := hborn x (by rw [hx]; simp)
        have h2 := Array.all_eq_true_iff_forall_mem.1 hall x (by rw [← Array.mem_toList_iff, hx]; simp)
        simp only [ge_iff_le, decide_eq_true_eq] at h2
        omega
      simp [this]
  rw [hgo]
  simp only [Bool.false_eq_true, if_false]
  obtain ⟨LL, hLL⟩ : ∃ LL : List (α × Value × Nat), LL = L.filter fun p => decide (p.2.2 ∉ DL.map (·.2.2)) := ⟨_, rfl⟩
  have hleft : (es.filter fun e => !S.contains e.born).toList = ents enc LL := by
    rw [Array.toList_filter, h2, hLL]
    unfold ents
    rw [List.filter_map]
    congr 1
    apply List.filter_congr
    intro p _
    simp only [Function.comp]
    rw [← Array.contains_toList, hS]
    by_cases hm : p.2.2 ∈ DL.map (·.2.2)
    · simp [hm]
    · simp [hm]
  have hmemLL : ∀ p, p ∈ LL ↔ p ∈ L ∧ p.2.2 ∉ DL.map (·.2.2) := fun p => by rw [hLL, List.mem_filter]; simp
  have hold : ((es.filter fun e => !S.contains e.born).filter (·.born < c)).toList = ents enc LL := by
    rw [Array.toList_filter, hleft, List.filter_eq_self]
    intro e he
    obtain ⟨p, hp, rfl⟩ := List.mem_map.1 he
    simpa using hb2 p ((hmemLL p).1 hp).1
  have hnew : ((es.filter fun e => !S.contains e.born).filter (·.born ≥ c)) = #[] := by
    rw [← Array.toList_inj, Array.toList_filter, hleft]
    show _ = []
    rw [List.filter_eq_nil_iff]
    intro e he
    obtain ⟨p, hp, rfl⟩ := List.mem_map.1 he
    have := hb2 p ((hmemLL p).1 hp).1
    simp only [ge_iff_le, decide_eq_true_eq]; omega
  generalize ho : (es.filter fun e => !S.contains e.born).filter (·.born < c) = old at hold
  rw [hnew]
  simp only [Array.append_empty]
  by_cases hemp : LL = []
  · have hold0 : old = #[] := by rw [← Array.toList_inj, hold, hemp]; rfl
    subst hold0
    simp only [List.isEmpty_toArray, List.isEmpty_nil, if_true, List.map_toArray, List.map_nil, Array.append_empty, List.size_toArray, List.length_cons, List.length_nil, Nat.zero_add]
    rw [semH_choose]
    intro tt
    have : (if Question.forced (.mapNext 1) then 0 else Question.cut (.mapNext 1) tt) = 0 := by simp [Question.forced]
    rw [this]
    show k (.tuple #[.bool false]) h
    refine hnil ?_
    rw [hD, h3]
    apply List.Perm.map
    refine (List.perm_ext_iff_of_nodup hDn ?_).2 fun p => ⟨hDL p, fun hp => ?_⟩
    · exact nodup_of_map _ hb1
    · by_cases hm : p.2.2 ∈ DL.map (·.2.2)
      · obtain ⟨q, hq, e⟩ := List.mem_map.1 hm
        rw [nodup_inj (f := fun p : α × Value × Nat => p.2.2) hb1 hp (hDL q hq) e.symm]; exact hq
      · have := (hmemLL p).2 ⟨hp, hm⟩
        rw [hemp] at this; cases this
  · have hne : old.isEmpty = false := by
      rw [Bool.eq_false_iff]
      intro e
      have : old.toList = [] := by simpa using e
      rw [hold] at this
      exact hemp (List.map_eq_nil_iff.1 this)
    rw [hne]
    simp only [Bool.false_eq_true, if_false, Array.empty_append, Array.size_map]
    have hpos : 0 < old.size := by
      rw [← Array.length_toList, hold]
      unfold ents
      rw [List.length_map]
      exact List.length_pos_iff.2 hemp
    rw [semH_choose]
    intro tt
    obtain ⟨j, hj, hjlt⟩ : ∃ j, (if Question.forced (.mapNext old.size) then 0 else Question.cut (.mapNext old.size) tt) = j ∧ j < old.size := by
      refine ⟨_, rfl, ?_⟩
      split
      · exact hpos
      · exact Nat.mod_lt _ hpos
    rw [hj]
    have hjl : j < LL.length := by
      have : old.size = LL.length := by rw [← Array.length_toList, hold]; simp [ents]
      omega
    have hget : (old.map some)[j]? = some (some ⟨enc LL[j].1, LL[j].2.1, LL[j].2.2⟩) := by
      rw [Array.getElem?_map, ← Array.getElem?_toList, hold]
      simp [ents, hjl]
    rw [hget]
    dsimp only
    have hp := (hmemLL LL[j]).1 (List.getElem_mem hjl)
    generalize LL[j] = p at hp
    obtain ⟨hpL, hpD⟩ := hp
    show (∃ u, h it = some u ∧ (∀ c e f, u ≠ .cells c e f)) ∧ _
    refine ⟨⟨_, hi, by intros; simp⟩, ?_⟩
    have hri : r ≠ it := fun e => by rw [e, hi] at h1; cases h1
    refine hcons p.1 p.2.1 _ ?_ ?_ ⟨H.nodup, es, c, L, DL ++ [p], S.push p.2.2, (by rw [set_other hri]; exact h1), h2, h3, hb1, hb2, set_same, ?_, ?_, ?_, ?_⟩ (Upd.set (by simp))
    · rw [h3]; exact List.mem_map_of_mem hpL
    · intro hm
      rw [hD, mem_keys] at hm
      obtain ⟨q, hq, e⟩ := List.mem_map.1 hm
      have hnd := H.nodup
      rw [h3, mem_keys] at hnd
      have hqL := hDL q hq
      have : q = p := nodup_inj (f := fun p : α × Value × Nat => p.1) hnd hqL hpL e
      exact hpD (by rw [← this]; exact List.mem_map_of_mem hq)
    · rw [Array.toList_push, hS]; simp
    · intro q hq
      rcases List.mem_append.1 hq with hq | hq
      · exact hDL q hq
      · simp only [List.mem_singleton] at hq; subst hq; exact hpL
    · rw [List.nodup_append]
      refine ⟨hDn, by simp, ?_⟩
      intro x hx y hy
      simp only [List.mem_singleton] at hy
      subst hy
      rintro rfl
      exact hpD (List.mem_map_of_mem hx)
    · rw [hD]; simp
theorem entry_it {r it : Nat} {l D : List (α × Value)} {a : α} {v : Value} (H : MapIt enc h r it l (D ++ [(a, v)])) {k : Value → PH → Prop} (hk : k (.tuple #[enc a, v]) h) : SemH P (Instr.entry (.pointer (some ⟨it, 0, none⟩))) h k := by
  obtain ⟨es, c, L, DL, S, h1, h2, h3, hb1, hb2, hi, hS, hDL, hDn, hD⟩ := H.here
  obtain ⟨DL', p, rfl, hp1⟩ : ∃ DL' p, DL = DL' ++ [p] ∧ (a, v) = (p.1, p.2.1) := by
    rcases List.eq_nil_or_concat DL with rfl | ⟨DL', p, rfl⟩
    · simp at hD
    · refine ⟨DL', p, by simp, ?_⟩
      simp only [List.concat_eq_append, List.map_append, List.map_cons, List.map_nil] at hD
      have := List.append_inj_right' hD rfl
      simpa using this
  simp only [Prod.mk.injEq] at hp1
  obtain ⟨rfl, rfl⟩ := hp1
  have hpL := hDL p (by simp)
  unfold Instr.entry
  refine semH_getO hi (by intros; simp) ?_
  dsimp only
  have hback : S.back? = some p.2.2 := by
    rw [← Array.getLast?_toList, hS]; simp
  rw [hback]
  dsimp only
  refine semH_getMap h1 ?_
  dsimp only
  simp only [bne_self_eq_false, Bool.false_eq_true, if_false]
  have hfind : es.find? (·.born == p.2.2) = some ⟨enc p.1, p.2.1, p.2.2⟩ := by
    rw [← Array.find?_toList, h2]
    unfold ents
    rw [List.find?_map]
    have : L.find? ((fun e : MapEntry => e.born == p.2.2) ∘ fun p => ⟨enc p.1, p.2.1, p.2.2⟩) = some p := by
      cases hf : L.find? ((fun e : MapEntry => e.born == p.2.2) ∘ fun p => ⟨enc p.1, p.2.1, p.2.2⟩) with
      | none =>
        rw [List.find?_eq_none] at hf
        have := hf p hpL
        simp at this
      | some q =>
        have hq := List.mem_of_find?_eq_some hf
        have he := List.find?_some hf
        simp only [Function.comp, beq_iff_eq] at he
        rw [nodup_inj (f := fun p : α × Value × Nat => p.2.2) hb1 hq hpL he]
    rw [this]; rfl
  rw [hfind]
  exact hk
end
end Go.Proofs.YtcoajnpchhmgjaaGreatDoor
namespace Go.Proofs.YtcoajnpchhmgjaaGreatDoor
open Go
structure Pk where
  f : Int
  s : Int
  t : Int
  d : ByteArray
  deriving DecidableEq
instance : Inhabited Pk := ⟨⟨0, 0, 0, ⟨#[]⟩⟩⟩
def Pk.cells (p : Pk) : List Value := [.int .i64 p.f, .int .u64 p.s, .int .u64 p.t, .string p.d]
theorem Bx.pk {h : PH} {r : Nat} {cs : List Value} (H : Bx h r cs) {o : Nat} {p : Pk} (ho : (cs.drop o).take 4 = p.cells) : SemE PG h (Instr.loadAt T_api_Packet (.pointer (some ⟨r, o, none⟩))) = some (.agg p.cells.toArray) := by
  obtain ⟨e, h1⟩ := H
  have hl : o + 4 ≤ cs.length := by
    have : ((cs.drop o).take 4).length = 4 := by rw [ho]; rfl
    rw [List.length_take, List.length_drop] at this; omega
  rw [T_api_Packet.loadAgg h1 (by simpa using hl)]
  congr 2
  rw [← ho]; simp [List.drop_take]
def Pk.right (p : Pk) : Bool := decide (0 ≤ p.f) && decide (p.f ≤ 1) && decide (p.s ≠ 0) && decide (p.t ≠ 0) && decide (p.d.size ≤ 64)
set_option maxRecDepth 20000 in
theorem Check_ok {h : PH} (p : Pk) {k : Value → PH → Prop} (hk : ∀ h', Ext h h' → k (.int .i64 (if p.right then 0 else 1)) h') : CallsH PG id_packet_Check #[.agg p.cells.toArray] h k := by
  apply packet_Check.call
  unfold packet_Check
  intro r hr
  rw [bindH_eq]
  have u : Ext h (h.set r (.cells (Value.cells (.agg p.cells.toArray)) T_api_Packet)) := Upd.new hr
  have b : Bx (h.set r (.cells (Value.cells (.agg p.cells.toArray)) T_api_Packet)) r p.cells := Bx.new
  generalize h.set r (.cells (Value.cells (.agg p.cells.toArray)) T_api_Packet) = h1 at *
  have c0 : cellH h1 ⟨r, 0, none⟩ = some (.int .i64 p.f) := b.cell 0
  have c1 : cellH h1 ⟨r, 0 + 1, none⟩ = some (.int .u64 p.s) := b.cell 1
  have c2 : cellH h1 ⟨r, 0 + 2, none⟩ = some (.int .u64 p.t) := b.cell 2
  have c3 : cellH h1 ⟨r, 0 + 3, none⟩ = some (.string p.d) := b.cell 3
  have hk := hk h1 u
  unfold Pk.right at hk
  simp only [T_api_Packet.f0, T_api_Packet.f1, T_api_Packet.f2, T_api_Packet.f3, T_int.load, T_uint64.load, T_string.load, c0, zSS, reduceIte]
  by_cases d1 : p.f < 0
  · have e1 : (0 ≤ p.f) = False := by apply eq_false; omega
    simp only [T_api_Packet.f0, T_api_Packet.f1, T_api_Packet.f2, T_api_Packet.f3, T_int.load, T_uint64.load, T_string.load, c0, d1, e1, Bool.false_and, decide_false, zSS, reduceIte] at hk ⊢
    exact hk
  · have e1 : (0 ≤ p.f) = True := by apply eq_true; omega
    by_cases d2 : 1 < p.f
    · have e2 : (p.f ≤ 1) = False := by apply eq_false; omega
      simp only [T_api_Packet.f0, T_api_Packet.f1, T_api_Packet.f2, T_api_Packet.f3, T_int.load, T_uint64.load, T_string.load, c0, d1, e1, d2, e2, Bool.false_and, Bool.and_false, decide_false, zSS, reduceIte] at hk ⊢
      exact hk
    · have e2 : (p.f ≤ 1) = True := by apply eq_true; omega
      by_cases d3 : p.s = 0
      · have e3 : (p.s == 0) = true := by simp [d3]
        have e3' : (p.s ≠ 0) = False := by simp [d3]
        simp only [T_api_Packet.f0, T_api_Packet.f1, T_api_Packet.f2, T_api_Packet.f3, T_int.load, T_uint64.load, T_string.load, c0, d1, e1, d2, e2, c1, e3, e3', Bool.false_and, Bool.and_false, decide_false, zSS, reduceIte] at hk ⊢
        exact hk
      · have e3 : (p.s == 0) = false := by simp [d3]
        have e3' : (p.s ≠ 0) = True := by simp [d3]
        by_cases d4 : p.t = 0
        · have e4 : (p.t == 0) = true := by simp [d4]
          have e4' : (p.t ≠ 0) = False := by simp [d4]
          simp only [T_api_Packet.f0, T_api_Packet.f1, T_api_Packet.f2, T_api_Packet.f3, T_int.load, T_uint64.load, T_string.load, c0, d1, e1, d2, e2, c1, e3, e3', c2, e4, e4', Bool.false_and, Bool.and_false, decide_false, zSS, reduceIte] at hk ⊢
          exact hk
        · have e4 : (p.t == 0) = false := by simp [d4]
          have e4' : (p.t ≠ 0) = True := by simp [d4]
          by_cases d5 : p.d.size ≤ 64
          · have e5 : ((64 : Int) < (p.d.size : Int)) = False := by apply eq_false; omega
            simp only [T_api_Packet.f0, T_api_Packet.f1, T_api_Packet.f2, T_api_Packet.f3, T_int.load, T_uint64.load, T_string.load, c0, d1, e1, d2, e2, c1, e3, e3', c2, e4, e4', c3, len_string T_string.und, e5, d5, Bool.and_self, Bool.true_and, zSS, reduceIte] at hk ⊢
            exact hk
          · have e5 : ((64 : Int) < (p.d.size : Int)) = True := by apply eq_true; omega
            simp only [T_api_Packet.f0, T_api_Packet.f1, T_api_Packet.f2, T_api_Packet.f3, T_int.load, T_uint64.load, T_string.load, c0, d1, e1, d2, e2, c1, e3, e3', c2, e4, e4', c3, len_string T_string.und, e5, d5, Bool.and_false, decide_false, zSS, reduceIte] at hk ⊢
            exact hk
end Go.Proofs.YtcoajnpchhmgjaaGreatDoor
namespace Go.Proofs.YtcoajnpchhmgjaaGreatDoor
open Go
structure Nt where
  k : Int
  p : Pk
  deriving DecidableEq
def Nt.cells (n : Nt) : List Value := [.int .i64 n.k, .int .i64 n.p.f, .int .u64 n.p.s, .int .u64 n.p.t, .string n.p.d]
theorem Nt.rows (l : List Nt) : Rows 5 (l.map Nt.cells) := fun r hr => by obtain ⟨m, _, rfl⟩ := List.mem_map.1 hr; rfl
def Nt.right (n : Nt) : Bool := decide (1 ≤ n.k) && decide (n.k ≤ 4) && n.p.right
end Go.Proofs.YtcoajnpchhmgjaaGreatDoor
namespace Go.Proofs.YtcoajnpchhmgjaaGreatDoor
open Go
set_option maxRecDepth 20000
theorem cvb_u8 (x : Int) : SemP PG (convert T_uint64 T_uint8 (.int .u64 x)) = some (.int .u8 (IntKind.u8.wrap x)) := by kernel_rfl
theorem byte_litR (x : Int) : SemA PG (Instr.buildSlice T_sl_uint8 1 #[(0, .int .u8 x)]) = some (.cells #[.int .u8 x] T_uint8, fun r => pure (.slice (some ⟨r, 0, none⟩) 1 1)) := by kernel_rfl
theorem RBytes_ok {h : PH} {n c : Nat} (hn : n < 18446744073709551616) (hc : c ≤ 1000) {k : Value → PH → Prop} (hk : ∀ h', Ext h h' → k (.string (tx (be n c))) h') : CallsH PG id_carrackref03_Bytes #[.int .u64 n, .int .i64 c] h k := by
  apply carrackref03_Bytes.call
  unfold carrackref03_Bytes
  refine ⟨fun vs h' => ∃ i : Nat, i ≤ c ∧ vs = [.int .u64 ((n / 256 ^ i : Nat) : Int), .int .i64 c, .string (tx ((be n c).drop (c - i))), .int .i64 i] ∧ Ext h h', upTo c 3, ⟨0, by omega, by rw [List.drop_of_length_le (by rw [be_len]; omega)]; simp [tx_nil], Upd.refl⟩, ?_⟩
  rintro ρ h' ⟨i, hi, hvs, w⟩
  simp only [List.map_cons, List.map_nil, List.cons.injEq, and_true] at hvs
  obtain ⟨s0, s1, s2, s3⟩ := hvs
  rw [s0, s1, s2, s3]
  unfold carrackref03_Bytes_b2
  by_cases hlt : i < c
  · have hd : ((i : Int) < (c : Int)) = True := by apply eq_true; omega
    have hle : n / 256 ^ i ≤ n := Nat.div_le_self _ _
    have e1 : Int.tmod ((n / 256 ^ i : Nat) : Int) 256 = ((n / 256 ^ i % 256 : Nat) : Int) := (Int.ofNat_tmod _ 256).symm
    have e2 : IntKind.u8.wrap ((n / 256 ^ i % 256 : Nat) : Int) = ((UInt8.ofNat (n / 256 ^ i % 256)).toNat : Int) := by rw [u8_wrap]; simp
    have e3 : IntKind.u64.wrap (Int.tdiv ((n / 256 ^ i : Nat) : Int) 256) = ((n / 256 ^ (i + 1) : Nat) : Int) := by
      have : Int.tdiv ((n / 256 ^ i : Nat) : Int) 256 = ((n / 256 ^ i / 256 : Nat) : Int) := rfl
      have hd2 : n / 256 ^ i / 256 = n / 256 ^ (i + 1) := by rw [Nat.div_div_eq_div_mul, Nat.pow_succ]
      rw [this, hd2]
      exact u64_wrap (Int.natCast_nonneg _) (by have := Nat.div_le_self n (256 ^ (i + 1)); omega)
    have ei : IntKind.i64.wrap ((i : Int) + 1) = ((i + 1 : Nat) : Int) := by rw [i64_wrap (by omega) (by omega)]; omega
    simp only [hd, rem_eq (show (256 : Int) ≠ 0 by decide), quo_eq (show (256 : Int) ≠ 0 by decide), e1, cvb_u8, e2, byte_litR, zSS, reduceIte]
    intro r hr
    refine popO_pure ?_
    have u1 : Ext h' (h'.set r (.cells #[.int .u8 (UInt8.ofNat (n / 256 ^ i % 256)).toNat] T_uint8)) := Upd.new hr
    have s1 : SlR (h'.set r (.cells #[.int .u8 (UInt8.ofNat (n / 256 ^ i % 256)).toNat] T_uint8)) 1 (.slice (some ⟨r, 0, none⟩) 1 1) ([UInt8.ofNat (n / 256 ^ i % 256)].map bcell) := (OwnR.lit (bcell.rows [_]) set_same (by simp) (by decide) (by simp [bcell])).slR
    generalize h'.set r (.cells #[.int .u8 (UInt8.ofNat (n / 256 ^ i % 256)).toNat] T_uint8) = h1 at *
    have hcv := conv_bytes T_sl_uint8.und T_uint8.und T_string.und s1
    have hcv' : SemE PG h1 (convert T_sl_uint8 T_string (.slice (some ⟨r, 0, none⟩) 1 1)) = some (.string (tx [UInt8.ofNat (n / 256 ^ i % 256)])) := hcv
    have hadd : SemP PG (binOp .add T_string (.string (tx [UInt8.ofNat (n / 256 ^ i % 256)])) (.string (tx ((be n c).drop (c - i))))) = some (.string (tx ((be n c).drop (c - (i + 1))))) := by
      rw [add_tx (by rw [List.length_drop, be_len]; simp; omega)]
      congr 3
      have hg := be_get n c (c - (i + 1)) (by omega)
      have : c - 1 - (c - (i + 1)) = i := by omega
      rw [this] at hg
      obtain ⟨hlt', hg'⟩ := List.getElem?_eq_some_iff.1 hg
      rw [List.drop_eq_getElem_cons hlt', hg']
      have : c - (i + 1) + 1 = c - i := by omega
      rw [this]; rfl
    simp only [hcv', hadd, e3, ei, zSS, reduceIte]
    exact ⟨⟨i + 1, by omega, rfl, w.trans u1⟩, by simp [upTo, s3]; omega⟩
  · have hd : ((i : Int) < (c : Int)) = False := by apply eq_false; omega
    have hic : i = c := by omega
    subst hic
    rw [Nat.sub_self, List.drop_zero]
    simp only [hd, zSS, reduceIte]
    exact hk _ w
end Go.Proofs.YtcoajnpchhmgjaaGreatDoor
namespace Go.Proofs.YtcoajnpchhmgjaaGreatDoor
open Go
set_option maxRecDepth 20000
abbrev W := BitVec 32
def wv (x : W) : Value := .int .u32 (x.toNat : Int)
def tn (x : W) (n : Nat) : W := (x <<< (32 - n)) ||| (x >>> n)
def w4 (a b c d : UInt8) : W := ((((BitVec.ofNat 32 a.toNat) <<< 24) ||| ((BitVec.ofNat 32 b.toNat) <<< 16)) ||| ((BitVec.ofNat 32 c.toNat) <<< 8)) ||| (BitVec.ofNat 32 d.toNat)
def wat (b : List UInt8) (t : Nat) : W := w4 (b.getD (4 * t) 0) (b.getD (4 * t + 1) 0) (b.getD (4 * t + 2) 0) (b.getD (4 * t + 3) 0)
def nextW (l : List W) (t : Nat) : W :=
  let x := l.getD (t - 15) 0
  let y := l.getD (t - 2) 0
  ((l.getD (t - 16) 0 + ((tn x 7 ^^^ tn x 18) ^^^ (x >>> 3))) + l.getD (t - 7) 0) + ((tn y 17 ^^^ tn y 19) ^^^ (y >>> 10))
def wfront (b : List UInt8) (n : Nat) : List W := (List.range n).map (wat b)
def wmore (b : List UInt8) : Nat → List W
  | 0 => wfront b 16
  | n + 1 => wmore b n ++ [nextW (wmore b n) (n + 16)]
def wordsP (b : List UInt8) : List W := wmore b 48
theorem wfront_len (b : List UInt8) (n : Nat) : (wfront b n).length = n := by simp [wfront]
theorem wfront_succ (b : List UInt8) (n : Nat) : wfront b (n + 1) = wfront b n ++ [wat b n] := by simp [wfront, List.range_succ]
theorem wmore_len (b : List UInt8) : ∀ n, (wmore b n).length = n + 16
  | 0 => by simp [wmore, wfront_len]
  | n + 1 => by simp only [wmore, List.length_append, wmore_len b n, List.length_singleton]
theorem wordsP_len (b : List UInt8) : (wordsP b).length = 64 := wmore_len b 48
structure S8 where
  (a b c d e f g h : W)
def S8.l (s : S8) : List W := [s.a, s.b, s.c, s.d, s.e, s.f, s.g, s.h]
def S8.cells (s : S8) : List Value := s.l.map wv
def S8.add (s t : S8) : S8 := ⟨s.a + t.a, s.b + t.b, s.c + t.c, s.d + t.d, s.e + t.e, s.f + t.f, s.g + t.g, s.h + t.h⟩
def rnd (s : S8) (k w : W) : S8 :=
  let t1 := (((s.h + ((tn s.e 6 ^^^ tn s.e 11) ^^^ tn s.e 25)) + ((s.e &&& s.f) ^^^ (~~~s.e &&& s.g))) + k) + w
  let t2 := ((tn s.a 2 ^^^ tn s.a 13) ^^^ tn s.a 22) + (((s.a &&& s.b) ^^^ (s.a &&& s.c)) ^^^ (s.b &&& s.c))
  ⟨t1 + t2, s.a, s.b, s.c, s.d + t1, s.e, s.f, s.g⟩
def kT : List W := [
  0x428a2f98, 0x71374491, 0xb5c0fbcf, 0xe9b5dba5, 0x3956c25b, 0x59f111f1, 0x923f82a4, 0xab1c5ed5,
  0xd807aa98, 0x12835b01, 0x243185be, 0x550c7dc3, 0x72be5d74, 0x80deb1fe, 0x9bdc06a7, 0xc19bf174,
  0xe49b69c1, 0xefbe4786, 0x0fc19dc6, 0x240ca1cc, 0x2de92c6f, 0x4a7484aa, 0x5cb0a9dc, 0x76f988da,
  0x983e5152, 0xa831c66d, 0xb00327c8, 0xbf597fc7, 0xc6e00bf3, 0xd5a79147, 0x06ca6351, 0x14292967,
  0x27b70a85, 0x2e1b2138, 0x4d2c6dfc, 0x53380d13, 0x650a7354, 0x766a0abb, 0x81c2c92e, 0x92722c85,
  0xa2bfe8a1, 0xa81a664b, 0xc24b8b70, 0xc76c51a3, 0xd192e819, 0xd6990624, 0xf40e3585, 0x106aa070,
  0x19a4c116, 0x1e376c08, 0x2748774c, 0x34b0bcb5, 0x391c0cb3, 0x4ed8aa4a, 0x5b9cca4f, 0x682e6ff3,
  0x748f82ee, 0x78a5636f, 0x84c87814, 0x8cc70208, 0x90befffa, 0xa4506ceb, 0xbef9a3f7, 0xc67178f2]
theorem kT_len : kT.length = 64 := rfl
def rounds (ws : List W) (s : S8) : Nat → S8
  | 0 => s
  | n + 1 => rnd (rounds ws s n) (kT.getD n 0) (ws.getD n 0)
def mixP (s : S8) (b : List UInt8) : S8 := s.add (rounds (wordsP b) s 64)
def S0 : S8 := ⟨1779033703, 3144134277, 1013904242, 2773480762, 1359893119, 2600822924, 528734635, 1541459225⟩
def absorb (s : S8) (l : List UInt8) : S8 × List UInt8 := if h : 64 ≤ l.length then absorb (mixP s (l.take 64)) (l.drop 64) else (s, l)
termination_by l.length
decreasing_by simp; omega
theorem absorb_lt {s : S8} {l : List UInt8} (h : l.length < 64) : absorb s l = (s, l) := by rw [absorb, dif_neg (by omega)]
theorem absorb_ge {s : S8} {l : List UInt8} (h : 64 ≤ l.length) : absorb s l = absorb (mixP s (l.take 64)) (l.drop 64) := by rw [absorb, dif_pos h]
theorem absorb_app (s : S8) (a b : List UInt8) : absorb s (a ++ b) = absorb (absorb s a).1 ((absorb s a).2 ++ b) := by
  by_cases h : 64 ≤ a.length
  · have e1 : (a ++ b).take 64 = a.take 64 := by rw [List.take_append_of_le_length h]
    have e2 : (a ++ b).drop 64 = a.drop 64 ++ b := by rw [List.drop_append_of_le_length h]
    rw [absorb_ge (l := a ++ b) (by simp; omega), absorb_ge h, e1, e2]
    exact absorb_app (mixP s (a.take 64)) (a.drop 64) b
  · rw [absorb_lt (l := a) (by omega)]
termination_by a.length
decreasing_by simp; omega
theorem absorb_rest (s : S8) (a : List UInt8) : (absorb s a).2.length < 64 := by
  by_cases h : 64 ≤ a.length
  · rw [absorb_ge h]; exact absorb_rest _ _
  · rw [absorb_lt (by omega)]; show a.length < 64; omega
termination_by a.length
decreasing_by simp; omega
def wb (x : W) : List UInt8 := [UInt8.ofNat ((x >>> 24).toNat), UInt8.ofNat ((x >>> 16).toNat), UInt8.ofNat ((x >>> 8).toNat), UInt8.ofNat x.toNat]
def digestP (s : S8) : List UInt8 := s.l.flatMap wb
def padP (n : Nat) : List UInt8 := 128 :: (List.replicate ((119 - n % 64) % 64) 0 ++ be (n * 8 % 18446744073709551616) 8)
def sha (l : List UInt8) : List UInt8 := digestP (absorb S0 (l ++ padP l.length)).1
section
variable {P : Program} {t : TypeId} {x y : W} {h : PH}
theorem u32_wrap (x : Int) : IntKind.u32.wrap x = x % 4294967296 := by
  rfl
theorem ofInt_nat (x : W) : BitVec.ofInt 32 (x.toNat : Int) = x := by
  apply BitVec.eq_of_toInt_eq
  rw [BitVec.toInt_ofInt, BitVec.toInt_eq_toNat_bmod]
theorem w_add : SemP P (binOp .add t (wv x) (wv y)) = some (wv (x + y)) := by
  unfold wv
  rw [add_eq, u32_wrap, BitVec.toNat_add, ← Int.natCast_add]
  rfl
theorem w_wrap (x : W) : IntKind.u32.wrap (x.toNat : Int) = x.toNat := by
  rw [u32_wrap]
  have := x.isLt
  omega
theorem w_and : SemP P (binOp .and t (wv x) (wv y)) = some (wv (x &&& y)) := by
  have e : SemP P (binOp .and t (wv x) (wv y)) = some (.int .u32 (IntKind.u32.wrap ((BitVec.ofInt 32 (x.toNat : Int) &&& BitVec.ofInt 32 (y.toNat : Int)).toNat : Int))) := rfl
  rw [e, ofInt_nat, ofInt_nat, w_wrap]; rfl
theorem w_or : SemP P (binOp .or t (wv x) (wv y)) = some (wv (x ||| y)) := by
  have e : SemP P (binOp .or t (wv x) (wv y)) = some (.int .u32 (IntKind.u32.wrap ((BitVec.ofInt 32 (x.toNat : Int) ||| BitVec.ofInt 32 (y.toNat : Int)).toNat : Int))) := rfl
  rw [e, ofInt_nat, ofInt_nat, w_wrap]; rfl
theorem w_xor : SemP P (binOp .xor t (wv x) (wv y)) = some (wv (x ^^^ y)) := by
  have e : SemP P (binOp .xor t (wv x) (wv y)) = some (.int .u32 (IntKind.u32.wrap ((BitVec.ofInt 32 (x.toNat : Int) ^^^ BitVec.ofInt 32 (y.toNat : Int)).toNat : Int))) := rfl
  rw [e, ofInt_nat, ofInt_nat, w_wrap]; rfl
theorem w_not : SemP P (Op.unary .xor (wv x)) = some (wv (~~~x)) := by
  have e : SemP P (Op.unary .xor (wv x)) = some (.int .u32 (IntKind.u32.wrap ((BitVec.ofInt 32 4294967295 ^^^ BitVec.ofInt 32 (x.toNat : Int)).toNat : Int))) := rfl
  rw [e, ofInt_nat, w_wrap]
  have : BitVec.ofInt 32 4294967295 ^^^ x = ~~~x := by
    have : BitVec.ofInt 32 4294967295 = BitVec.allOnes 32 := by decide
    rw [this, BitVec.allOnes_xor]
  rw [this]; rfl
theorem w_shr {k : IntKind} {n : Nat} (hn : n ≤ 32) : SemP P (binOp .shr t (wv x) (.int k n)) = some (wv (x >>> n)) := by
  unfold wv
  rw [shr_eq (by omega)]
  congr 2
  rw [BitVec.toNat_ushiftRight, Nat.shiftRight_eq_div_pow]
  have e : min ((n : Int).toNat) (IntKind.u32.bits) = n := by
    show min n 32 = n
    omega
  rw [e, Int.fdiv_eq_ediv_of_nonneg _ (Int.pow_nonneg (by decide)), Int.natCast_ediv, Int.natCast_pow]
  rfl
theorem w_shl {k : IntKind} {n : Nat} (hn : n ≤ 32) : SemP P (binOp .shl t (wv x) (.int k n)) = some (wv (x <<< n)) := by
  unfold wv
  rw [shl_eq (by omega)]
  congr 2
  have e : min ((n : Int).toNat) (IntKind.u32.bits) = n := by
    show min n 32 = n
    omega
  rw [e, u32_wrap, BitVec.toNat_shiftLeft, Nat.shiftLeft_eq, Int.natCast_emod, Int.natCast_mul, Int.natCast_pow]
  rfl
end
end Go.Proofs.YtcoajnpchhmgjaaGreatDoor
namespace Go.Proofs.YtcoajnpchhmgjaaGreatDoor
open Go
set_option maxRecDepth 20000
theorem cv_int_uint (x : Int) : SemP PG (convert T_int T_uint (.int .i64 x)) = some (.int .u64 (IntKind.u64.wrap x)) := by kernel_rfl
theorem cv_8_32 (x : Int) : SemP PG (convert T_uint8 T_uint32 (.int .u8 x)) = some (.int .u32 (IntKind.u32.wrap x)) := by kernel_rfl
theorem cv_32_8 (x : Int) : SemP PG (convert T_uint32 T_uint8 (.int .u32 x)) = some (.int .u8 (IntKind.u8.wrap x)) := by kernel_rfl
theorem and31 : ∀ n : Fin 32, ((BitVec.ofInt 64 (18446744073709551616 - (n.val : Int)) &&& BitVec.ofInt 64 31).toNat : Int) = (32 - (n.val : Int)) % 32 := by decide
theorem and31' (n : Nat) (h1 : 1 ≤ n) (h2 : n ≤ 31) : SemP PG (binOp .and T_uint (.int .u64 (18446744073709551616 - (n : Int))) (.int .u64 31)) = some (.int .u64 ((32 - n : Nat) : Int)) := by
  have e : SemP PG (binOp .and T_uint (.int .u64 (18446744073709551616 - (n : Int))) (.int .u64 31)) = some (.int .u64 (IntKind.u64.wrap ((BitVec.ofInt 64 (18446744073709551616 - (n : Int)) &&& BitVec.ofInt 64 31).toNat : Int))) := rfl
  have := and31 ⟨n, by omega⟩
  simp only at this
  rw [e, this, u64_wrap (by omega) (by omega)]
  congr 2
  omega
theorem turn_ok {h : PH} {x : W} {n : Nat} (h1 : 1 ≤ n) (h2 : n ≤ 31) {k : Value → PH → Prop} (hk : k (wv (tn x n)) h) : CallsH PG id_sha_turn #[wv x, .int .i64 n] h k := by
  apply sha_turn.call
  unfold sha_turn
  have e1 : SemP PG (Op.unary .neg (.int .i64 (n : Int))) = some (.int .i64 (-(n : Int))) := by
    have : SemP PG (Op.unary .neg (.int .i64 (n : Int))) = some (.int .i64 (IntKind.i64.wrap (0 - (n : Int)))) := rfl
    rw [this, i64_wrap (by omega) (by omega)]; simp
  simp only [e1, zSS, reduceIte]
  apply math_bits_RotateLeft32.call
  unfold math_bits_RotateLeft32
  have e2 : IntKind.u64.wrap (-(n : Int)) = 18446744073709551616 - (n : Int) := by
    unfold IntKind.wrap
    simp [IntKind.signed, IntKind.bits]
    omega
  have e3 : IntKind.u64.wrap (32 - ((32 - n : Nat) : Int)) = ((n : Nat) : Int) := by rw [u64_wrap (by omega) (by omega)]; omega
  simp only [cv_int_uint, e2, and31' n h1 h2, sub_eq, e3, w_shl (show 32 - n ≤ 32 by omega), w_shr (show n ≤ 32 by omega), w_or, zSS, reduceIte]
  exact hk
theorem set_mid {l r : List Value} {x v : Value} {n : Nat} (hn : n = l.length) : (l ++ x :: r).toArray.setIfInBounds n v = (l ++ v :: r).toArray := by
  subst hn
  apply Array.ext'
  simp
def zs (n : Nat) : List Value := List.replicate n (wv 0)
theorem zs_succ (n : Nat) : zs (n + 1) = wv 0 :: zs n := rfl
theorem at64 {b : Nat} {j : Int} (h0 : 0 ≤ j) (h1 : j < 64) : SemP PG (Instr.indexAt T_64_uint32 (.pointer (some ⟨b, 0, none⟩)) (.int .i64 j)) = some (.pointer (some ⟨b, j.toNat, none⟩)) := by
  rw [indexAt_array T_64_uint32.und T_uint32.info T_uint32.size h0 (by exact_mod_cast h1)]
  simp
theorem at8 {b : Nat} {j : Int} (h0 : 0 ≤ j) (h1 : j < 8) : SemP PG (Instr.indexAt T_8_uint32 (.pointer (some ⟨b, 0, none⟩)) (.int .i64 j)) = some (.pointer (some ⟨b, j.toNat, none⟩)) := by
  rw [indexAt_array T_8_uint32.und T_uint32.info T_uint32.size h0 (by exact_mod_cast h1)]
  simp
theorem isw (x : W) : isCell (wv x) = true := rfl
theorem cell_w {h : PH} {b o : Nat} {l : List W} {r : List Value} {t : TypeId} {fr : Nat × Nat} (hb : h b = some (.cells (l.map wv ++ r).toArray t fr)) (ho : o < l.length) : cellH h ⟨b, o, none⟩ = some (wv (l.getD o 0)) := by
  unfold cellH
  simp only [hb]
  rw [List.getElem?_toArray, List.getElem?_append_left (by simpa using ho), List.getElem?_map, List.getElem?_eq_getElem ho]
  simp [List.getD_eq_getElem?_getD, List.getElem?_eq_getElem ho]
theorem w8 (x : UInt8) : Value.int .u32 (IntKind.u32.wrap (x.toNat : Int)) = wv (BitVec.ofNat 32 x.toNat) := by
  have hx := x.toNat_lt
  unfold wv
  rw [u32_wrap, BitVec.toNat_ofNat]
  congr 1
theorem sh24 {t : TypeId} {x : W} {k : IntKind} : SemP PG (binOp .shl t (wv x) (.int k 24)) = some (wv (x <<< 24)) := w_shl (n := 24) (by decide)
theorem sh16 {t : TypeId} {x : W} {k : IntKind} : SemP PG (binOp .shl t (wv x) (.int k 16)) = some (wv (x <<< 16)) := w_shl (n := 16) (by decide)
theorem sh8 {t : TypeId} {x : W} {k : IntKind} : SemP PG (binOp .shl t (wv x) (.int k 8)) = some (wv (x <<< 8)) := w_shl (n := 8) (by decide)
theorem sr3 {t : TypeId} {x : W} {k : IntKind} : SemP PG (binOp .shr t (wv x) (.int k 3)) = some (wv (x >>> 3)) := w_shr (n := 3) (by decide)
theorem sr10 {t : TypeId} {x : W} {k : IntKind} : SemP PG (binOp .shr t (wv x) (.int k 10)) = some (wv (x >>> 10)) := w_shr (n := 10) (by decide)
theorem z64 : zcells PG T_64_uint32 = (zs 64).toArray := by rw [T_64_uint32.zc]; rfl
theorem z8 : zcells PG T_8_uint32 = (zs 8).toArray := by rw [T_8_uint32.zc]; rfl
theorem words_b6 {b : List UInt8} (hb : b.length = 64) {i r1 r3 : Nat} (hi : i < 16) {h : PH} {R : Value → PH → Prop} {n5 : List Value → PH → Prop}
    (h3 : h r3 = some (.cells ((wfront b i).map wv ++ zs (64 - i)).toArray T_64_uint32 (0, 0)))
    (hn : n5 [.string (tx b), .pointer (some ⟨r1, 0, none⟩), .pointer (some ⟨r3, 0, none⟩), .int .i64 ((i + 1 : Nat) : Int)] (h.set r3 (.cells ((wfront b (i + 1)).map wv ++ zs (64 - (i + 1))).toArray T_64_uint32 (0, 0)))) :
    sha_words_b6 R n5 (.string (tx b)) (.pointer (some ⟨r1, 0, none⟩)) (.pointer (some ⟨r3, 0, none⟩)) (.int .i64 (i : Int)) h := by
  unfold sha_words_b6
  have e1 : ((i : Int) < 16) = True := eq_true (by omega)
  have e2 : IntKind.i64.wrap (4 * (i : Int)) = ((4 * i : Nat) : Int) := by rw [i64_wrap (by omega) (by omega)]; omega
  have e3 : IntKind.i64.wrap (((4 * i : Nat) : Int) + 4) = ((4 * i + 4 : Nat) : Int) := by rw [i64_wrap (by omega) (by omega)]; omega
  have e4 : IntKind.i64.wrap ((i : Int) + 1) = ((i + 1 : Nat) : Int) := by rw [i64_wrap (by omega) (by omega)]; omega
  have ec : SemP PG (Instr.sliceAt T_string (.string (tx b)) (some (.int .i64 ((4 * i : Nat) : Int))) (some (.int .i64 ((4 * i + 4 : Nat) : Int))) none) = some (.string (tx ((b.take (4 * i + 4)).drop (4 * i)))) :=
    cut_tx T_string.und (.inr ⟨_, rfl⟩) (.inr ⟨_, rfl⟩) (by omega) (by omega)
  have ix : ∀ j, j < 4 → ((b.take (4 * i + 4)).drop (4 * i))[j]? = some (b.getD (4 * i + j) 0) := fun j hj => by
    rw [List.getElem?_drop, List.getElem?_take, if_pos (by omega), List.getD_eq_getElem?_getD, List.getElem?_eq_getElem (by omega)]; rfl
  have i0 : SemP PG (Instr.index T_string (.string (tx ((b.take (4 * i + 4)).drop (4 * i)))) (.int .i64 0)) = _ := index_tx (j := 0) T_string.und (ix 0 (by omega))
  have i1 : SemP PG (Instr.index T_string (.string (tx ((b.take (4 * i + 4)).drop (4 * i)))) (.int .i64 1)) = _ := index_tx (j := 1) T_string.und (ix 1 (by omega))
  have i2 : SemP PG (Instr.index T_string (.string (tx ((b.take (4 * i + 4)).drop (4 * i)))) (.int .i64 2)) = _ := index_tx (j := 2) T_string.und (ix 2 (by omega))
  have i3 : SemP PG (Instr.index T_string (.string (tx ((b.take (4 * i + 4)).drop (4 * i)))) (.int .i64 3)) = _ := index_tx (j := 3) T_string.und (ix 3 (by omega))
  have ea := at64 (b := r3) (j := (i : Int)) (by omega) (by omega)
  rw [Int.toNat_natCast] at ea
  simp only [e1, e2, e3, e4, ec, i0, i1, i2, i3, cv_8_32, w8, sh24, sh16, sh8, w_or, ea, zSS, reduceIte]
  refine store_cell T_uint32.und rfl h3 (by simp [wfront_len, zs]; omega) (isw _) T_uint32.info T_uint32.size ?_
  have es : ((wfront b i).map wv ++ zs (64 - i)).toArray.setIfInBounds i (wv (w4 (b.getD (4 * i + 0) 0) (b.getD (4 * i + 1) 0) (b.getD (4 * i + 2) 0) (b.getD (4 * i + 3) 0))) = ((wfront b (i + 1)).map wv ++ zs (64 - (i + 1))).toArray := by
    rw [show 64 - i = (64 - (i + 1)) + 1 by omega, zs_succ, set_mid (by simp [wfront_len]), wfront_succ]
    simp [wat]
  have es' := es
  unfold w4 at es'
  rw [es']
  exact hn
theorem words_b31 {b : List UInt8} {i r1 r3 : Nat} (hi : i < 48) {h : PH} {R : Value → PH → Prop} {n5 : List Value → PH → Prop}
    (h3 : h r3 = some (.cells ((wmore b i).map wv ++ zs (48 - i)).toArray T_64_uint32 (0, 0)))
    (hn : n5 [.pointer (some ⟨r1, 0, none⟩), .pointer (some ⟨r3, 0, none⟩), .int .i64 ((i + 1 + 16 : Nat) : Int)] (h.set r3 (.cells ((wmore b (i + 1)).map wv ++ zs (48 - (i + 1))).toArray T_64_uint32 (0, 0)))) :
    sha_words_b31 R n5 (.pointer (some ⟨r1, 0, none⟩)) (.pointer (some ⟨r3, 0, none⟩)) (.int .i64 ((i + 16 : Nat) : Int)) h := by
  unfold sha_words_b31
  have hl := wmore_len b i
  have e1 : (((i + 16 : Nat) : Int) < 64) = True := eq_true (by omega)
  have e2 : IntKind.i64.wrap (((i + 16 : Nat) : Int) - 15) = ((i + 1 : Nat) : Int) := by rw [i64_wrap (by omega) (by omega)]; omega
  have e3 : IntKind.i64.wrap (((i + 16 : Nat) : Int) - 2) = ((i + 14 : Nat) : Int) := by rw [i64_wrap (by omega) (by omega)]; omega
  have e4 : IntKind.i64.wrap (((i + 16 : Nat) : Int) - 16) = ((i : Nat) : Int) := by rw [i64_wrap (by omega) (by omega)]; omega
  have e5 : IntKind.i64.wrap (((i + 16 : Nat) : Int) - 7) = ((i + 9 : Nat) : Int) := by rw [i64_wrap (by omega) (by omega)]; omega
  have e6 : IntKind.i64.wrap (((i + 16 : Nat) : Int) + 1) = ((i + 1 + 16 : Nat) : Int) := by rw [i64_wrap (by omega) (by omega)]; omega
  have a1 := at64 (b := r3) (j := ((i + 1 : Nat) : Int)) (by omega) (by omega)
  have a2 := at64 (b := r3) (j := ((i + 14 : Nat) : Int)) (by omega) (by omega)
  have a3 := at64 (b := r3) (j := ((i : Nat) : Int)) (by omega) (by omega)
  have a4 := at64 (b := r3) (j := ((i + 9 : Nat) : Int)) (by omega) (by omega)
  have a5 := at64 (b := r3) (j := ((i + 16 : Nat) : Int)) (by omega) (by omega)
  rw [Int.toNat_natCast] at a1 a2 a3 a4 a5
  have c1 := cell_w (o := i + 1) h3 (by omega)
  have c2 := cell_w (o := i + 14) h3 (by omega)
  have c3 := cell_w (o := i) h3 (by omega)
  have c4 := cell_w (o := i + 9) h3 (by omega)
  simp only [e1, e2, e3, e4, e5, a1, a2, a3, a4, T_uint32.load, c1, c2, c3, c4, sr3, sr10, zSS, reduceIte]
  refine turn_ok (n := 7) (by decide) (by decide) ?_
  refine ⟨by simp only [T_uint32.load, c4], by simp only [T_uint32.load, c3], ?_⟩
  refine turn_ok (n := 18) (by decide) (by decide) ?_
  refine ⟨by simp only [T_uint32.load, c4], by simp only [T_uint32.load, c3], ?_⟩
  simp only [w_xor, w_add, zSS, reduceIte]
  refine turn_ok (n := 17) (by decide) (by decide) ?_
  refine ⟨by simp only [T_uint32.load, c4], by simp only [T_uint32.load, c3], ?_⟩
  refine turn_ok (n := 19) (by decide) (by decide) ?_
  refine ⟨by simp only [T_uint32.load, c4], by simp only [T_uint32.load, c3], ?_⟩
  simp only [w_xor, w_add, a5, e6, zSS, reduceIte]
  refine store_cell T_uint32.und rfl h3 (by simp [hl, zs]; omega) (isw _) T_uint32.info T_uint32.size ?_
  have es : ((wmore b i).map wv ++ zs (48 - i)).toArray.setIfInBounds (i + 16) (wv (nextW (wmore b i) (i + 16))) = ((wmore b (i + 1)).map wv ++ zs (48 - (i + 1))).toArray := by
    rw [show 48 - i = (48 - (i + 1)) + 1 by omega, zs_succ, set_mid (by simp [hl]), wmore]
    simp
  have es' := es
  unfold nextW at es'
  rw [show i + 16 - 15 = i + 1 by omega, show i + 16 - 2 = i + 14 by omega, show i + 16 - 16 = i by omega, show i + 16 - 7 = i + 9 by omega] at es'
  simp only at es'
  rw [es']
  exact hn
theorem words_ok {h : PH} {b : List UInt8} (hb : b.length = 64) {k : Value → PH → Prop} (hk : ∀ h', Ext h h' → k (.agg ((wordsP b).map wv).toArray) h') : CallsH PG id_sha_words #[.string (tx b)] h k := by
  apply sha_words.call
  unfold sha_words
  rw [z64]
  intro r1 hr1
  try simp only [bindH_eq]
  have u1 : Ext h (h.set r1 (.cells (zs 64).toArray T_64_uint32)) := Upd.new hr1
  have a1 : (h.set r1 (.cells (zs 64).toArray T_64_uint32)) r1 = some (.cells (zs 64).toArray T_64_uint32 (0, 0)) := set_same
  generalize h.set r1 (.cells (zs 64).toArray T_64_uint32) = h1 at *
  intro r3 hr3
  try simp only [bindH_eq]
  have u3 : Ext h1 (h1.set r3 (.cells (zs 64).toArray T_64_uint32)) := Upd.new hr3
  have a3 : (h1.set r3 (.cells (zs 64).toArray T_64_uint32)) r3 = some (.cells (zs 64).toArray T_64_uint32 (0, 0)) := set_same
  have hne : r1 ≠ r3 := fun e => by subst e; rw [a1] at hr3; cases hr3
  have n3 : h r3 = none := u1.none hr3
  have b1 := u3.get a1
  generalize h1.set r3 (.cells (zs 64).toArray T_64_uint32) = h2 at *
  have u := u1.trans u3
  refine ⟨fun vs h' => ∃ i, i ≤ 16 ∧ vs = [.string (tx b), .pointer (some ⟨r1, 0, none⟩), .pointer (some ⟨r3, 0, none⟩), .int .i64 ((i : Nat) : Int)] ∧ Ext h h' ∧ h' r1 = some (.cells (zs 64).toArray T_64_uint32 (0, 0)) ∧ h' r3 = some (.cells ((wfront b i).map wv ++ zs (64 - i)).toArray T_64_uint32 (0, 0)), upTo 16 3, ⟨0, by omega, rfl, u, b1, by simpa [wfront] using a3⟩, ?_⟩
  rintro ρ h' ⟨i, hi, hvs, u', b1', b3'⟩
  simp only [List.map_cons, List.map_nil, List.cons.injEq, and_true] at hvs
  obtain ⟨v0, v2, v3, v9⟩ := hvs
  simp only [v0, v2, v3, v9, List.map_cons, List.map_nil]
  by_cases hl : i < 16
  · refine words_b6 hb hl b3' ⟨⟨i + 1, by omega, rfl, u'.fresh (Upd.set (F := [r3]) (by simp)) (Fresh.one n3), by rw [set_other hne]; exact b1', set_same⟩, ?_⟩
    simp only [upTo, List.getElem?_cons_succ, List.getElem?_cons_zero]
    omega
  · have hi' : i = 16 := by omega
    subst hi'
    unfold sha_words_b6
    simp only [show (((16 : Nat) : Int) < 16) = False from eq_false (by decide), zSS, reduceIte]
    refine ⟨fun vs h' => ∃ i, i ≤ 48 ∧ vs = [.pointer (some ⟨r1, 0, none⟩), .pointer (some ⟨r3, 0, none⟩), .int .i64 ((i + 16 : Nat) : Int)] ∧ Ext h h' ∧ h' r1 = some (.cells (zs 64).toArray T_64_uint32 (0, 0)) ∧ h' r3 = some (.cells ((wmore b i).map wv ++ zs (48 - i)).toArray T_64_uint32 (0, 0)), upTo 64 2, ⟨0, by omega, rfl, u', b1', b3'⟩, ?_⟩
    rintro ρ2 h2' ⟨i, hi, hvs, u2, c1, c3⟩
    simp only [List.map_cons, List.map_nil, List.cons.injEq, and_true] at hvs
    obtain ⟨v2', v3', v6'⟩ := hvs
    simp only [v2', v3', v6', List.map_cons, List.map_nil]
    by_cases hl : i < 48
    · refine words_b31 hl c3 ⟨⟨i + 1, by omega, rfl, u2.fresh (Upd.set (F := [r3]) (by simp)) (Fresh.one n3), by rw [set_other hne]; exact c1, set_same⟩, ?_⟩
      simp only [upTo, List.getElem?_cons_succ, List.getElem?_cons_zero]
      omega
    · have hi' : i = 48 := by omega
      subst hi'
      have hw : ((wmore b 48).map wv ++ zs (48 - 48)).toArray = ((wordsP b).map wv).toArray := by simp [wordsP, zs]
      rw [hw] at c3
      have hsz : ((wordsP b).map wv).toArray.size = 64 := by rw [List.size_toArray, List.length_map, wordsP_len]
      have hic : ∀ v ∈ ((wordsP b).map wv).toArray.toList, isCell v = true := fun v hv => by
        rw [List.toList_toArray, List.mem_map] at hv
        obtain ⟨w, -, rfl⟩ := hv
        rfl
      generalize ((wordsP b).map wv).toArray = cs at *
      unfold sha_words_b31
      have l3 := T_64_uint32.loadAgg (o := 0) c3 (by omega)
      rw [Array.extract_eq_self_of_le (by omega)] at l3
      simp only [show (((48 + 16 : Nat) : Int) < 64) = False from eq_false (by decide), l3, zSS, reduceIte]
      refine store_box c1 T_64_uint32.info (by rw [hsz]; rfl) (by omega) (by rw [hsz]; rfl) hic ?_
      have l1 := T_64_uint32.loadAgg (h := h2'.set r1 (.cells cs T_64_uint32 (0, 0))) (o := 0) set_same (by omega)
      rw [Array.extract_eq_self_of_le (by omega)] at l1
      simp only [l1, zSS, reduceIte]
      exact hk _ (u2.fresh (Upd.set (F := [r1]) (by simp)) (Fresh.one hr1))
end Go.Proofs.YtcoajnpchhmgjaaGreatDoor
namespace Go.Proofs.YtcoajnpchhmgjaaGreatDoor
open Go
set_option maxRecDepth 20000
def KAt (h : PH) : Prop := ∃ t fr, h 0 = some (.cells (kT.map wv).toArray t fr)
theorem KAt.ext {h h' : PH} (H : KAt h) (u : Ext h h') : KAt h' := by
  obtain ⟨t, fr, hb⟩ := H
  exact ⟨t, fr, u.get hb⟩
theorem cell_v {h : PH} {b o : Nat} {l : List W} {t : TypeId} {fr : Nat × Nat} (hb : h b = some (.cells (l.map wv).toArray t fr)) (ho : o < l.length) : cellH h ⟨b, o, none⟩ = some (wv (l.getD o 0)) := by
  refine cell_w (r := []) (t := t) (fr := fr) ?_ ho
  rw [List.append_nil]; exact hb
theorem copy8 {h : PH} {r : Nat} {a b c d e f g x : Value} (hb : h r = some (.cells #[a, b, c, d, e, f, g, x] T_8_uint32 (0, 0))) (hc : ∀ v ∈ [a, b, c, d, e, f, g], isCell v = true) {k : Value → PH → Prop}
    (hk : k (.int .i64 7) (h.set r (.cells #[a, a, b, c, d, e, f, g] T_8_uint32 (0, 0)))) :
    SemH PG (Builtin.copy_ #[T_sl_uint32, T_sl_uint32] T_int #[.slice (some ⟨r, 1, none⟩) 7 7, .slice (some ⟨r, 0, none⟩) 7 8]) h k := by
  have S : SlR h 1 (.slice (some ⟨r, 0, none⟩) 7 8) [[a], [b], [c], [d], [e], [f], [g]] := by
    refine ⟨fun q hq => by simp at hq; rcases hq with rfl | rfl | rfl | rfl | rfl | rfl | rfl <;> rfl, some ⟨r, 0, none⟩, 8, rfl, by simp, by unfold maxL; omega, fun _ => ⟨r, 0, _, _, _, rfl, hb, by simp, by simp⟩, trivial⟩
  have hfirst := S.first (P := PG)
  simp only [Builtin.copy_, List.getElem?_toArray, List.getElem?_cons_zero, List.getElem?_cons_succ, semH_und T_sl_uint32.und, sizeOf_bind, semH_info T_uint32.info, pure_bind, Builtin.lenOf, T_uint32.size]
  refine semH_of_semE (s := Builtin.firstCells 1 7 (.slice (some ⟨r, 0, none⟩) 7 8)) (a := #[a, b, c, d, e, f, g]) hfirst ?_
  refine SemH.bind (P := PG) (s := storeCells _ _) ?_
  refine semH_storeCells [a, b, c, d, e, f, g] 0 h #[a, b, c, d, e, f, g, x] hb (by simp) hc ?_
  have e : (if [a, b, c, d, e, f, g] = [] then h else h.set r (.cells (writeA #[a, b, c, d, e, f, g, x] (1 + 0) [a, b, c, d, e, f, g]) T_8_uint32 (0, 0))) = h.set r (.cells #[a, a, b, c, d, e, f, g] T_8_uint32 (0, 0)) := by
    rw [if_neg (by simp)]
    rfl
  rw [e]
  exact hk
theorem cut1 {r : Nat} : SemP PG (Instr.sliceAt T_8_uint32 (.pointer (some ⟨r, 0, none⟩)) (some (.int .i64 1)) none none) = some (.slice (some ⟨r, 1, none⟩) 7 7) := by kernel_rfl
theorem cut7 {r : Nat} : SemP PG (Instr.sliceAt T_8_uint32 (.pointer (some ⟨r, 0, none⟩)) none (some (.int .i64 7)) none) = some (.slice (some ⟨r, 0, none⟩) 7 8) := by kernel_rfl
theorem mix_b15 {ws : List W} (hws : ws.length = 64) {s : S8} {i a r3 r10 : Nat} (hi : i < 64) {h : PH} {R : Value → PH → Prop} {n : List Value → PH → Prop} (hK : KAt h)
    (h3 : h r3 = some (.cells (ws.map wv).toArray T_64_uint32 (0, 0))) (h10 : h r10 = some (.cells #[wv s.a, wv s.b, wv s.c, wv s.d, wv s.e, wv s.f, wv s.g, wv s.h] T_8_uint32 (0, 0)))
    (hn : ∀ s', s' = rnd s (kT.getD i 0) (ws.getD i 0) → n [.pointer (some ⟨a, 0, none⟩), .pointer (some ⟨r3, 0, none⟩), .pointer (some ⟨r10, 0, none⟩), .int .i64 ((i + 1 : Nat) : Int)] (h.set r10 (.cells #[wv s'.a, wv s'.b, wv s'.c, wv s'.d, wv s'.e, wv s'.f, wv s'.g, wv s'.h] T_8_uint32 (0, 0)))) :
    sha_state_mix_b15 R n (.pointer (some ⟨a, 0, none⟩)) (.pointer (some ⟨r3, 0, none⟩)) (.pointer (some ⟨r10, 0, none⟩)) (.int .i64 (i : Int)) h := by
  obtain ⟨kt, fr, hK⟩ := hK
  unfold sha_state_mix_b15
  have e1 : ((i : Int) < 64) = True := eq_true (by omega)
  have e4 : IntKind.i64.wrap ((i : Int) + 1) = ((i + 1 : Nat) : Int) := by rw [i64_wrap (by omega) (by omega)]; omega
  have m : ∀ j : Nat, j < 8 → SemP PG (Instr.indexAt T_8_uint32 (.pointer (some ⟨r10, 0, none⟩)) (.int .i64 j)) = some (.pointer (some ⟨r10, j, none⟩)) := fun j hj => by rw [at8 (by omega) (by omega), Int.toNat_natCast]
  have m0 : SemP PG (Instr.indexAt T_8_uint32 (.pointer (some ⟨r10, 0, none⟩)) (.int .i64 0)) = some (.pointer (some ⟨r10, 0, none⟩)) := m 0 (by decide)
  have m1 : SemP PG (Instr.indexAt T_8_uint32 (.pointer (some ⟨r10, 0, none⟩)) (.int .i64 1)) = some (.pointer (some ⟨r10, 1, none⟩)) := m 1 (by decide)
  have m2 : SemP PG (Instr.indexAt T_8_uint32 (.pointer (some ⟨r10, 0, none⟩)) (.int .i64 2)) = some (.pointer (some ⟨r10, 2, none⟩)) := m 2 (by decide)
  have m4 : SemP PG (Instr.indexAt T_8_uint32 (.pointer (some ⟨r10, 0, none⟩)) (.int .i64 4)) = some (.pointer (some ⟨r10, 4, none⟩)) := m 4 (by decide)
  have m5 : SemP PG (Instr.indexAt T_8_uint32 (.pointer (some ⟨r10, 0, none⟩)) (.int .i64 5)) = some (.pointer (some ⟨r10, 5, none⟩)) := m 5 (by decide)
  have m6 : SemP PG (Instr.indexAt T_8_uint32 (.pointer (some ⟨r10, 0, none⟩)) (.int .i64 6)) = some (.pointer (some ⟨r10, 6, none⟩)) := m 6 (by decide)
  have m7 : SemP PG (Instr.indexAt T_8_uint32 (.pointer (some ⟨r10, 0, none⟩)) (.int .i64 7)) = some (.pointer (some ⟨r10, 7, none⟩)) := m 7 (by decide)
  have c0 : cellH h ⟨r10, 0, none⟩ = some (wv s.a) := by simp [cellH, h10]
  have c1 : cellH h ⟨r10, 1, none⟩ = some (wv s.b) := by simp [cellH, h10]
  have c2 : cellH h ⟨r10, 2, none⟩ = some (wv s.c) := by simp [cellH, h10]
  have c4 : cellH h ⟨r10, 4, none⟩ = some (wv s.e) := by simp [cellH, h10]
  have c5 : cellH h ⟨r10, 5, none⟩ = some (wv s.f) := by simp [cellH, h10]
  have c6 : cellH h ⟨r10, 6, none⟩ = some (wv s.g) := by simp [cellH, h10]
  have c7 : cellH h ⟨r10, 7, none⟩ = some (wv s.h) := by simp [cellH, h10]
  have a0 := at64 (b := 0) (j := (i : Int)) (by omega) (by omega)
  have a3 := at64 (b := r3) (j := (i : Int)) (by omega) (by omega)
  rw [Int.toNat_natCast] at a0 a3
  have ck := cell_v (o := i) hK (by rw [kT_len]; exact hi)
  have cw := cell_v (o := i) h3 (by omega)
  simp only [e1, m0, m1, m2, m4, m5, m6, m7, T_uint32.load, c0, c1, c2, c4, c5, c6, c7, a0, a3, ck, cw, w_and, w_xor, w_not, zSS, reduceIte]
  refine turn_ok (n := 6) (by decide) (by decide) ?_
  simp only [T_uint32.load, c0, c1, c2, c4, c5, c6, c7, ck, cw, true_and]
  refine turn_ok (n := 11) (by decide) (by decide) ?_
  simp only [T_uint32.load, c0, c1, c2, c4, c5, c6, c7, ck, cw, true_and, w_xor, zSS, reduceIte]
  refine turn_ok (n := 25) (by decide) (by decide) ?_
  simp only [e1, m0, m1, m2, m4, m5, m6, m7, T_uint32.load, c0, c1, c2, c4, c5, c6, c7, a0, a3, ck, cw, w_and, w_xor, w_not, w_add, true_and, zSS, reduceIte]
  refine turn_ok (n := 2) (by decide) (by decide) ?_
  simp only [T_uint32.load, c0, c1, c2, c4, c5, c6, c7, ck, cw, true_and]
  refine turn_ok (n := 13) (by decide) (by decide) ?_
  simp only [T_uint32.load, c0, c1, c2, c4, c5, c6, c7, ck, cw, true_and, w_xor, zSS, reduceIte]
  refine turn_ok (n := 22) (by decide) (by decide) ?_
  simp only [T_uint32.load, c0, c1, c2, c4, c5, c6, c7, ck, cw, true_and, w_xor, w_add, cut1, cut7, zSS, reduceIte]
  refine copy8 h10 (by simp [isw]) ?_
  have c4' : cellH (h.set r10 (.cells #[wv s.a, wv s.a, wv s.b, wv s.c, wv s.d, wv s.e, wv s.f, wv s.g] T_8_uint32 (0, 0))) ⟨r10, 4, none⟩ = some (wv s.d) := by simp [cellH, set_same]
  simp only [m4, T_uint32.load, c4', w_add, zSS, reduceIte]
  refine store_cell T_uint32.und rfl set_same (by simp) (isw _) T_uint32.info T_uint32.size ?_
  rw [set_set_same]
  try simp only [m0, w_add, zSS, reduceIte]
  refine store_cell T_uint32.und rfl set_same (by simp) (isw _) T_uint32.info T_uint32.size ?_
  rw [set_set_same]
  try simp only [e4, zSS, reduceIte]
  exact hn _ rfl
def S8.some (s t : S8) (n : Nat) : S8 := ⟨if 0 < n then s.a + t.a else s.a, if 1 < n then s.b + t.b else s.b, if 2 < n then s.c + t.c else s.c, if 3 < n then s.d + t.d else s.d, if 4 < n then s.e + t.e else s.e, if 5 < n then s.f + t.f else s.f, if 6 < n then s.g + t.g else s.g, if 7 < n then s.h + t.h else s.h⟩
theorem S8.some8 (s t : S8) : s.some t 8 = s.add t := rfl
theorem some_set (s t : S8) {i : Nat} (hi : i < 8) (x y : Value) : (#[wv (s.some t i).a, wv (s.some t i).b, wv (s.some t i).c, wv (s.some t i).d, wv (s.some t i).e, wv (s.some t i).f, wv (s.some t i).g, wv (s.some t i).h, x, y] : Array Value).setIfInBounds i (wv (s.l.getD i 0 + t.l.getD i 0)) =
    #[wv (s.some t (i + 1)).a, wv (s.some t (i + 1)).b, wv (s.some t (i + 1)).c, wv (s.some t (i + 1)).d, wv (s.some t (i + 1)).e, wv (s.some t (i + 1)).f, wv (s.some t (i + 1)).g, wv (s.some t (i + 1)).h, x, y] := by
  have : i = 0 ∨ i = 1 ∨ i = 2 ∨ i = 3 ∨ i = 4 ∨ i = 5 ∨ i = 6 ∨ i = 7 := by omega
  rcases this with rfl | rfl | rfl | rfl | rfl | rfl | rfl | rfl <;> rfl
theorem some_get (s t : S8) {i : Nat} (hi : i < 8) (x y : Value) : (#[wv (s.some t i).a, wv (s.some t i).b, wv (s.some t i).c, wv (s.some t i).d, wv (s.some t i).e, wv (s.some t i).f, wv (s.some t i).g, wv (s.some t i).h, x, y] : Array Value)[i]? = Option.some (wv (s.l.getD i 0)) := by
  have : i = 0 ∨ i = 1 ∨ i = 2 ∨ i = 3 ∨ i = 4 ∨ i = 5 ∨ i = 6 ∨ i = 7 := by omega
  rcases this with rfl | rfl | rfl | rfl | rfl | rfl | rfl | rfl <;> rfl
theorem v_get (t : S8) {i : Nat} (hi : i < 8) : (#[wv t.a, wv t.b, wv t.c, wv t.d, wv t.e, wv t.f, wv t.g, wv t.h] : Array Value)[i]? = Option.some (wv (t.l.getD i 0)) := by
  have : i = 0 ∨ i = 1 ∨ i = 2 ∨ i = 3 ∨ i = 4 ∨ i = 5 ∨ i = 6 ∨ i = 7 := by omega
  rcases this with rfl | rfl | rfl | rfl | rfl | rfl | rfl | rfl <;> rfl
def hcells (s : S8) (x y : Value) : Array Value := #[wv s.a, wv s.b, wv s.c, wv s.d, wv s.e, wv s.f, wv s.g, wv s.h, x, y]
theorem mix_b85 {s v : S8} {i a r10 : Nat} {x y : Value} (hi : i < 8) {h : PH} {R : Value → PH → Prop} {n : List Value → PH → Prop}
    (ha : h a = Option.some (.cells (hcells (s.some v i) x y) T_sha_Hash (0, 0))) (h10 : h r10 = Option.some (.cells #[wv v.a, wv v.b, wv v.c, wv v.d, wv v.e, wv v.f, wv v.g, wv v.h] T_8_uint32 (0, 0)))
    (hn : n [.pointer (Option.some ⟨a, 0, none⟩), .pointer (Option.some ⟨r10, 0, none⟩), .int .i64 ((i + 1 : Nat) : Int)] (h.set a (.cells (hcells (s.some v (i + 1)) x y) T_sha_Hash (0, 0)))) :
    sha_state_mix_b85 R n (.pointer (Option.some ⟨a, 0, none⟩)) (.pointer (Option.some ⟨r10, 0, none⟩)) (.int .i64 (i : Int)) h := by
  unfold sha_state_mix_b85
  have e1 : ((i : Int) < 8) = True := eq_true (by omega)
  have e4 : IntKind.i64.wrap ((i : Int) + 1) = ((i + 1 : Nat) : Int) := by rw [i64_wrap (by omega) (by omega)]; omega
  have m1 := at8 (b := a) (j := (i : Int)) (by omega) (by omega)
  have m2 := at8 (b := r10) (j := (i : Int)) (by omega) (by omega)
  rw [Int.toNat_natCast] at m1 m2
  have c1 : cellH h ⟨a, i, none⟩ = Option.some (wv (s.l.getD i 0)) := by
    unfold cellH
    simp only [ha]
    exact some_get s v hi x y
  have c2 : cellH h ⟨r10, i, none⟩ = Option.some (wv (v.l.getD i 0)) := by
    unfold cellH
    simp only [h10]
    exact v_get v hi
  simp only [e1, T_sha_state.f0, m1, m2, T_uint32.load, c1, c2, w_add, zSS, reduceIte]
  refine store_cell T_uint32.und rfl ha (by simp [hcells]; omega) (isw _) T_uint32.info T_uint32.size ?_
  have es := some_set s v hi x y
  change (hcells (s.some v i) x y).setIfInBounds i _ = hcells (s.some v (i + 1)) x y at es
  rw [es]
  try simp only [e4, zSS, reduceIte]
  exact hn
theorem mix_ok {h : PH} {a : Nat} {s : S8} {x y : Value} {b : List UInt8} (hK : KAt h) (hb : b.length = 64) (ha : h a = Option.some (.cells (hcells s x y) T_sha_Hash (0, 0))) {k : Value → PH → Prop}
    (hk : ∀ h', Upd [a] h h' → h' a = Option.some (.cells (hcells (mixP s b) x y) T_sha_Hash (0, 0)) → k (.tuple #[]) h') : CallsH PG id_sha_state_mix #[.pointer (Option.some ⟨a, 0, none⟩), .string (tx b)] h k := by
  apply sha_state_mix.call
  unfold sha_state_mix
  refine words_ok hb fun h1 u1 => ?_
  have hwl := wordsP_len b
  have hmx : mixP s b = s.add (rounds (wordsP b) s 64) := rfl
  rw [hmx] at hk
  clear hmx
  generalize wordsP b = ws at *
  have hsz : (ws.map wv).toArray.size = 64 := by rw [List.size_toArray, List.length_map, hwl]
  have hic : ∀ v ∈ (ws.map wv).toArray.toList, isCell v = true := fun v hv => by
    rw [List.toList_toArray, List.mem_map] at hv
    obtain ⟨w, -, rfl⟩ := hv
    rfl
  rw [z64, z8]
  intro r3 hr3
  try rw [bindH_eq]
  have u3 : Ext h1 (h1.set r3 (.cells (zs 64).toArray T_64_uint32)) := Upd.new hr3
  have n3 : h r3 = none := u1.none hr3
  have a3 : (h1.set r3 (.cells (zs 64).toArray T_64_uint32)) r3 = Option.some (.cells (zs 64).toArray T_64_uint32 (0, 0)) := set_same
  generalize h1.set r3 (.cells (zs 64).toArray T_64_uint32) = h2 at *
  refine store_box a3 T_64_uint32.info (by rw [hsz]; rfl) (by omega) (by rw [hsz]; rfl) hic ?_
  have u4 : Ext h (h2.set r3 (.cells (ws.map wv).toArray T_64_uint32 (0, 0))) := (u1.trans u3).fresh (Upd.set (F := [r3]) (by simp)) (Fresh.one n3)
  have a3' : (h2.set r3 (.cells (ws.map wv).toArray T_64_uint32 (0, 0))) r3 = Option.some (.cells (ws.map wv).toArray T_64_uint32 (0, 0)) := set_same
  generalize h2.set r3 (.cells (ws.map wv).toArray T_64_uint32 (0, 0)) = h3 at *
  have ha3 := u4.get ha
  have lA := T_8_uint32.loadAgg (o := 0) ha3 (by simp [hcells])
  have lE : (hcells s x y).extract 0 (0 + 8) = #[wv s.a, wv s.b, wv s.c, wv s.d, wv s.e, wv s.f, wv s.g, wv s.h] := rfl
  rw [lE] at lA
  simp only [T_sha_state.f0, lA, zSS, reduceIte]
  intro r10 hr10
  try rw [bindH_eq]
  have u5 : Ext h3 (h3.set r10 (.cells (zs 8).toArray T_8_uint32)) := Upd.new hr10
  have n10 : h r10 = none := u4.none hr10
  have a10 : (h3.set r10 (.cells (zs 8).toArray T_8_uint32)) r10 = Option.some (.cells (zs 8).toArray T_8_uint32 (0, 0)) := set_same
  generalize h3.set r10 (.cells (zs 8).toArray T_8_uint32) = h4 at *
  refine store_box a10 T_8_uint32.info rfl (by simp) rfl (by simp [isw]) ?_
  have u6 : Ext h (h4.set r10 (.cells #[wv s.a, wv s.b, wv s.c, wv s.d, wv s.e, wv s.f, wv s.g, wv s.h] T_8_uint32 (0, 0))) := (u4.trans u5).fresh (Upd.set (F := [r10]) (by simp)) (Fresh.one n10)
  have hne3 : r3 ≠ r10 := fun e => by subst e; rw [a3'] at hr10; cases hr10
  have a3'' : (h4.set r10 (.cells #[wv s.a, wv s.b, wv s.c, wv s.d, wv s.e, wv s.f, wv s.g, wv s.h] T_8_uint32 (0, 0))) r3 = Option.some (.cells (ws.map wv).toArray T_64_uint32 (0, 0)) := by rw [set_other hne3]; exact u5.get a3'
  have a10' : (h4.set r10 (.cells #[wv s.a, wv s.b, wv s.c, wv s.d, wv s.e, wv s.f, wv s.g, wv s.h] T_8_uint32 (0, 0))) r10 = Option.some (.cells #[wv s.a, wv s.b, wv s.c, wv s.d, wv s.e, wv s.f, wv s.g, wv s.h] T_8_uint32 (0, 0)) := set_same
  generalize h4.set r10 (.cells #[wv s.a, wv s.b, wv s.c, wv s.d, wv s.e, wv s.f, wv s.g, wv s.h] T_8_uint32 (0, 0)) = h5 at *
  have hne : a ≠ r10 := fun e => by subst e; rw [ha] at n10; cases n10
  refine ⟨fun vs h' => ∃ i s', i ≤ 64 ∧ s' = rounds ws s i ∧ vs = [.pointer (Option.some ⟨a, 0, none⟩), .pointer (Option.some ⟨r3, 0, none⟩), .pointer (Option.some ⟨r10, 0, none⟩), .int .i64 ((i : Nat) : Int)] ∧ Ext h h' ∧ h' r3 = Option.some (.cells (ws.map wv).toArray T_64_uint32 (0, 0)) ∧ h' r10 = Option.some (.cells #[wv s'.a, wv s'.b, wv s'.c, wv s'.d, wv s'.e, wv s'.f, wv s'.g, wv s'.h] T_8_uint32 (0, 0)), upTo 64 3, ⟨0, s, by omega, rfl, rfl, u6, a3'', a10'⟩, ?_⟩
  rintro ρ h' ⟨i, s', hi, hs', hvs, u', b3, b10⟩
  simp only [List.map_cons, List.map_nil, List.cons.injEq, and_true] at hvs
  obtain ⟨v0, v4, v5, v18⟩ := hvs
  simp only [v0, v4, v5, v18, List.map_cons, List.map_nil]
  by_cases hl : i < 64
  · refine mix_b15 hwl hl (hK.ext u') b3 b10 fun s2 hs2 => ⟨⟨i + 1, s2, by omega, by rw [hs2, hs', rounds], rfl, u'.fresh (Upd.set (F := [r10]) (by simp)) (Fresh.one n10), by rw [set_other hne3]; exact b3, set_same⟩, ?_⟩
    simp only [upTo, List.getElem?_cons_succ, List.getElem?_cons_zero]
    omega
  · have hi' : i = 64 := by omega
    subst hi'
    unfold sha_state_mix_b15
    simp only [show (((64 : Nat) : Int) < 64) = False from eq_false (by decide), zSS, reduceIte]
    have hup : Upd [a] h h' := u'.upd
    refine ⟨fun vs h2' => ∃ i, i ≤ 8 ∧ vs = [.pointer (Option.some ⟨a, 0, none⟩), .pointer (Option.some ⟨r10, 0, none⟩), .int .i64 ((i : Nat) : Int)] ∧ Upd [a] h h2' ∧ h2' a = Option.some (.cells (hcells (s.some s' i) x y) T_sha_Hash (0, 0)) ∧ h2' r10 = Option.some (.cells #[wv s'.a, wv s'.b, wv s'.c, wv s'.d, wv s'.e, wv s'.f, wv s'.g, wv s'.h] T_8_uint32 (0, 0)), upTo 8 2, ⟨0, by omega, rfl, hup, u'.get ha, b10⟩, ?_⟩
    rintro ρ2 h2' ⟨i, hi, hvs, u2, ca, c10⟩
    simp only [List.map_cons, List.map_nil, List.cons.injEq, and_true] at hvs
    obtain ⟨v0', v5', v92'⟩ := hvs
    simp only [v0', v5', v92', List.map_cons, List.map_nil]
    by_cases hl : i < 8
    · refine mix_b85 hl ca c10 ⟨⟨i + 1, by omega, rfl, u2.trans (Upd.set (by simp)), set_same, by rw [set_other (Ne.symm hne)]; exact c10⟩, ?_⟩
      simp only [upTo, List.getElem?_cons_succ, List.getElem?_cons_zero]
      omega
    · have hi' : i = 8 := by omega
      subst hi'
      unfold sha_state_mix_b85
      simp only [show (((8 : Nat) : Int) < 8) = False from eq_false (by decide), zSS, reduceIte]
      refine hk _ u2 ?_
      rw [ca, S8.some8, hs']
end Go.Proofs.YtcoajnpchhmgjaaGreatDoor
namespace Go.Proofs.YtcoajnpchhmgjaaGreatDoor
open Go
set_option maxRecDepth 20000
namespace Bld
theorem neqPtrSelf {h : PH} {x y : Operand} (a : Addr) : SemE PG h (binS .neq T_p_strings_Builder x y (.pointer (some a)) (.pointer (some a))) = some (.bool false) := by
  show SemE PG h (Op.equalIn (9999 + 1) T_p_strings_Builder (.pointer (some a)) (.pointer (some a)) >>= fun b => (pure (Value.bool (!b)) : Sem Value)) = _
  rw [semE_bind]
  have : SemE PG h (Op.equalIn (9999 + 1) T_p_strings_Builder (.pointer (some a)) (.pointer (some a))) = some true := by
    rw [Op.equalIn, semE_und T_p_strings_Builder.und]
    simp only [sizeOf_bind]
    rw [semE_info T_strings_Builder.info]
    simp [T_strings_Builder.size, sameAddr, SemE, pure]
  rw [this]; rfl
theorem semE_viewAt {h : PH} {r : Nat} {x : TypeId × Nat} {α : Type} (hs : shapeH h r = some (some x)) (f : Option (Addr × TypeId) → Sem α) : SemE PG h (viewAt r >>= f) = SemE PG h (f none) := by
  rw [semE_bind]
  have : SemE PG h (viewAt r) = some none := by
    show (shapeH h r).bind _ = _
    rw [hs]; rfl
  rw [this]; rfl
theorem semE_seenAt {h : PH} {a : Addr} {x : TypeId × Nat} {α : Type} (hs : shapeH h a.block = some (some x)) (f : Addr → Sem α) : SemE PG h (Conv.seenAt a >>= f) = SemE PG h (f a) := by
  rw [semE_bind]
  have : SemE PG h (Conv.seenAt a) = some a := by
    unfold Conv.seenAt
    rw [semE_viewAt hs]; rfl
  rw [this]; rfl
theorem semE_cellsIn {h : PH} {r : Nat} {x : TypeId × Nat} {α : Type} (hs : shapeH h r = some (some x)) (f : Option Nat → Sem α) : SemE PG h (cellsIn r >>= f) = SemE PG h (f (some x.2)) := by
  rw [semE_bind]
  have : SemE PG h (cellsIn r) = some (some x.2) := by
    show (shapeH h r).bind _ = _
    rw [hs]; rfl
  rw [this]; rfl
theorem to_unsafe {h : PH} {a : Nat} {c : Array Value} (ha : h a = some (.cells c T_strings_Builder (0, 0))) (hc : 0 < c.size) : SemE PG h (convert T_p_strings_Builder T_unsafe_Pointer (.pointer (some ⟨a, 0, none⟩))) = some (.pointer (some ⟨a, 0, none⟩)) := by
  have hs : shapeH h a = some (some (T_strings_Builder, c.size)) := by unfold shapeH; rw [ha]
  show SemE PG h (underlying T_p_strings_Builder >>= _) = _
  rw [semE_und T_p_strings_Builder.und]
  show SemE PG h (underlying T_unsafe_Pointer >>= _) = _
  rw [semE_und T_unsafe_Pointer.und]
  show SemE PG h (underlying T_p_strings_Builder >>= _) = _
  rw [semE_und T_p_strings_Builder.und]
  show SemE PG h (underlying T_unsafe_Pointer >>= _) = _
  rw [semE_und T_unsafe_Pointer.und]
  show SemE PG h (Conv.seenAt ⟨a, 0, none⟩ >>= _) = _
  rw [semE_seenAt (a := ⟨a, 0, none⟩) hs]
  show SemE PG h (cellsIn a >>= _) = _
  rw [semE_cellsIn hs]
  have h1 : ¬ (0 ≥ c.size) := by omega
  simp only [sizeOf_bind]
  rw [semE_info T_strings_Builder.info]
  simp [T_strings_Builder.size, h1, SemE, pure]
theorem from_unsafe {h : PH} {a : Nat} {c : Array Value} (ha : h a = some (.cells c T_strings_Builder (0, 0))) (hc : c.size = 2) : SemE PG h (convert T_unsafe_Pointer T_p_strings_Builder (.pointer (some ⟨a, 0, none⟩))) = some (.pointer (some ⟨a, 0, none⟩)) := by
  have hs : shapeH h a = some (some (T_strings_Builder, c.size)) := by unfold shapeH; rw [ha]
  rw [hc] at hs
  show SemE PG h (underlying T_unsafe_Pointer >>= _) = _
  rw [semE_und T_unsafe_Pointer.und]
  show SemE PG h (underlying T_p_strings_Builder >>= _) = _
  rw [semE_und T_p_strings_Builder.und]
  show SemE PG h (underlying T_unsafe_Pointer >>= _) = _
  rw [semE_und T_unsafe_Pointer.und]
  show SemE PG h (underlying T_p_strings_Builder >>= _) = _
  rw [semE_und T_p_strings_Builder.und]
  show SemE PG h (Conv.seenAt ⟨a, 0, none⟩ >>= _) = _
  rw [semE_seenAt (a := ⟨a, 0, none⟩) hs]
  have hv : SemE PG h (variablesAt ⟨a, 0, none⟩ T_strings_Builder 1) = some true := by
    show (shapeH h a).bind _ = _
    rw [hs]
    kernel_rfl
  simp only [sizeOf_bind]
  rw [semE_info T_strings_Builder.info]
  simp only [T_strings_Builder.size]
  rw [semE_bind, hv]
  simp [SemE, pure]
theorem NoEscape_ok {h : PH} {v : Value} {k : Value → PH → Prop} (hk : k v h) : CallsH PG id_internal_abi_NoEscape #[v] h k :=
  CallsH.entry (v := v) (by kernel_rfl) hk
structure BAt (h : PH) (a : Nat) (bs : List UInt8) (F : List Nat) : Prop where
  here : ∃ p v G, h a = some (.cells #[p, v] T_strings_Builder (0, 0)) ∧ (p = .pointer none ∨ p = .pointer (some ⟨a, 0, none⟩)) ∧ OwnR h T_uint8 1 v (bs.map bcell) G ∧ F = a :: G ∧ a ∉ G
theorem BAt.known {h : PH} {a : Nat} {bs : List UInt8} {F : List Nat} (H : BAt h a bs F) : ∀ b ∈ F, h b ≠ none := by
  obtain ⟨p, v, G, ha, hp, hO, rfl, hn⟩ := H
  intro b hb
  rcases List.mem_cons.1 hb with rfl | hb
  · rw [ha]; simp
  · exact hO.known b hb
theorem BAt.upd {h h' : PH} {a : Nat} {bs : List UInt8} {F G : List Nat} (H : BAt h a bs F) (u : Upd G h h') (hd : ∀ b ∈ F, b ∉ G) : BAt h' a bs F := by
  obtain ⟨p, v, G', ha, hp, hO, rfl, hn⟩ := H
  exact ⟨p, v, G', u.get ha (hd a (by simp)), hp, hO.upd u (fun b hb => hd b (by simp [hb])), rfl, hn⟩
theorem BAt.ext {h h' : PH} {a : Nat} {bs : List UInt8} {F : List Nat} (H : BAt h a bs F) (u : Ext h h') : BAt h' a bs F := H.upd u (by simp)
def BNext (h : PH) (a : Nat) (F : List Nat) (bs : List UInt8) (k : PH → Prop) : Prop := ∀ h' F', BAt h' a bs F' → Upd F h h' → (∀ b ∈ F', b ∈ F ∨ h b = none) → k h'
theorem copyCheck_ok {h : PH} {a : Nat} {p v : Value} (ha : h a = some (.cells #[p, v] T_strings_Builder (0, 0))) (hp : p = .pointer none ∨ p = .pointer (some ⟨a, 0, none⟩)) {k : Value → PH → Prop}
    (hk : ∀ h', h' a = some (.cells #[.pointer (some ⟨a, 0, none⟩), v] T_strings_Builder (0, 0)) → Upd [a] h h' → (∀ b, b ≠ a → h' b = h b) → k (.tuple #[]) h') : CallsH PG id_strings_Builder_copyCheck #[.pointer (some ⟨a, 0, none⟩)] h k := by
  apply strings_Builder_copyCheck.call
  unfold strings_Builder_copyCheck
  have hc : cellH h ⟨a, 0, none⟩ = some p := by simp [cellH, ha]
  simp only [T_strings_Builder.f0, T_p_strings_Builder.load, hc, zSS, reduceIte]
  rcases hp with rfl | rfl
  · simp only [eqlPtrNil T_p_strings_Builder.und, Option.isNone_none, zSS, reduceIte]
    refine SemE.semH (to_unsafe ha (by simp)) ?_
    refine NoEscape_ok ?_
    refine SemE.semH (from_unsafe ha (by simp)) ?_
    refine store_cell T_p_strings_Builder.und rfl ha (by simp) rfl T_p_strings_Builder.info T_p_strings_Builder.size ?_
    exact hk _ set_same (Upd.set (by simp)) (fun b hb => set_other hb)
  · simp only [eqlPtrNil T_p_strings_Builder.und, Option.isNone_some, neqPtrSelf, T_strings_Builder.f0, T_p_strings_Builder.load, hc, zSS, reduceIte]
    exact hk _ ha Upd.refl (fun _ _ => rfl)
theorem byte_lit (x : Int) : SemA PG (Instr.buildSlice T_sl_uint8 1 #[(0, .int .u8 x)]) = some (.cells #[.int .u8 x] T_uint8, fun r => pure (.slice (some ⟨r, 0, none⟩) 1 1)) := by kernel_rfl
theorem buf_app {h : PH} {a : Nat} {p v x : Value} {bs ys : List UInt8} {G : List Nat} {t2 e2 : TypeId} (hu2 : PG.underlying t2 = some (.slice e2)) (ha : h a = some (.cells #[p, v] T_strings_Builder (0, 0))) (hp : p = .pointer none ∨ p = .pointer (some ⟨a, 0, none⟩)) (hO : OwnR h T_uint8 1 v (bs.map bcell) G) (hn : a ∉ G)
    (hx : SlR h 1 x (ys.map bcell)) (hl : bs.length + ys.length ≤ 140737488355328) {k : PH → Prop} (hk : BNext h a (a :: G) (bs ++ ys) k) :
    SemH PG (Builtin.append_ #[T_sl_uint8, t2] T_sl_uint8 #[v, x]) h fun v' h' => SemH PG (storeS T_sl_uint8 (.pointer (some ⟨a, 1, none⟩)) v') h' fun _ h'' => k h'' := by
  refine append_own T_sl_uint8.und hu2 T_uint8.info T_uint8.size T_uint8.bytes T_uint8.zero rfl (by decide) hO hx (bcell.isCell _) (by simp; omega) ?_
  intro v2 h2 F2 hO2 u2 k2 _
  rw [← List.map_append] at hO2
  have ha2 := u2.get ha hn
  have hn2 : a ∉ F2 := fun hm => by
    rcases k2 a hm with h1 | h1
    · exact hn h1
    · rw [ha] at h1; cases h1
  refine store_cell T_sl_uint8.und rfl ha2 (by simp) ?_ T_sl_uint8.info T_sl_uint8.size ?_
  · obtain ⟨_, _, rfl, -⟩ := hO2.slR.here; rfl
  · refine hk _ (a :: F2) ⟨p, v2, F2, set_same, hp, hO2.upd (Upd.set (F := [a]) (by simp)) (fun b hb => by simp; rintro rfl; exact hn2 hb), rfl, hn2⟩ ((u2.mono fun b hb => .inl (by simp [hb])).trans (Upd.set (by simp))) (fun b hb => ?_)
    rcases List.mem_cons.1 hb with rfl | hb
    · exact .inl (by simp)
    · rcases k2 b hb with h1 | h1
      · exact .inl (by simp [h1])
      · exact .inr h1
theorem WriteByte_ok {h : PH} {a : Nat} {bs : List UInt8} {F : List Nat} (hW : BAt h a bs F) (hl : bs.length + 1 ≤ 140737488355328) (x : UInt8) {k : Value → PH → Prop} (hk : BNext h a F (bs ++ [x]) (k .nilIface)) :
    CallsH PG id_strings_Builder_WriteByte #[.pointer (some ⟨a, 0, none⟩), .int .u8 x.toNat] h k := by
  obtain ⟨p, v, G, ha, hp, hO, rfl, hn⟩ := hW
  apply strings_Builder_WriteByte.call
  unfold strings_Builder_WriteByte
  refine copyCheck_ok ha hp fun h1 ha1 u1 o1 => ?_
  have hc : cellH h1 ⟨a, 1, none⟩ = some v := by simp [cellH, ha1]
  have hO1 := hO.upd u1 (fun b hb hf => by simp at hf; subst hf; exact hn hb)
  simp only [T_strings_Builder.f1, T_sl_uint8.load, hc, byte_lit, zSS, reduceIte]
  intro r hr
  refine popO_pure ?_
  have u2 : Ext h1 (h1.set r (.cells #[.int .u8 x.toNat] T_uint8)) := Upd.new hr
  have s2 : SlR (h1.set r (.cells #[.int .u8 x.toNat] T_uint8)) 1 (.slice (some ⟨r, 0, none⟩) 1 1) ([x].map bcell) := (OwnR.lit (bcell.rows [x]) set_same (by simp) (by decide) (by simp [bcell])).slR
  refine buf_app T_sl_uint8.und (u2.get ha1) (.inr rfl) (hO1.ext u2) hn s2 (by simpa using hl) ?_
  intro h3 F3 hW3 u3 k3
  refine hk _ F3 hW3 ((u1.mono fun b hb => .inl (by simp at hb; simp [hb])).trans (u2.upd.trans u3)) fun b hb => ?_
  rcases k3 b hb with h' | h'
  · exact .inl h'
  · by_cases hba : b = a
    · exact .inl (by simp [hba])
    · have := u2.none h'
      rw [o1 b hba] at this
      exact .inr this
theorem buf_str {h : PH} {a : Nat} {p v : Value} {bs ys : List UInt8} {G : List Nat} (ha : h a = some (.cells #[p, v] T_strings_Builder (0, 0))) (hp : p = .pointer none ∨ p = .pointer (some ⟨a, 0, none⟩)) (hO : OwnR h T_uint8 1 v (bs.map bcell) G) (hn : a ∉ G)
    (hl : bs.length + ys.length ≤ 140737488355328) {k : PH → Prop} (hk : BNext h a (a :: G) (bs ++ ys) k) :
    SemH PG (Builtin.append_ #[T_sl_uint8, T_string] T_sl_uint8 #[v, .string (tx ys)]) h fun v' h' => SemH PG (storeS T_sl_uint8 (.pointer (some ⟨a, 1, none⟩)) v') h' fun _ h'' => k h'' := by
  refine append_str T_sl_uint8.und T_string.und T_uint8.info T_uint8.size T_uint8.bytes T_uint8.zero rfl (by decide) hO (by simp; omega) ?_
  intro v2 h2 F2 hO2 u2 k2 _
  rw [← List.map_append] at hO2
  have ha2 := u2.get ha hn
  have hn2 : a ∉ F2 := fun hm => by
    rcases k2 a hm with h1 | h1
    · exact hn h1
    · rw [ha] at h1; cases h1
  refine store_cell T_sl_uint8.und rfl ha2 (by simp) ?_ T_sl_uint8.info T_sl_uint8.size ?_
  · obtain ⟨_, _, rfl, -⟩ := hO2.slR.here; rfl
  · refine hk _ (a :: F2) ⟨p, v2, F2, set_same, hp, hO2.upd (Upd.set (F := [a]) (by simp)) (fun b hb => by simp; rintro rfl; exact hn2 hb), rfl, hn2⟩ ((u2.mono fun b hb => .inl (by simp [hb])).trans (Upd.set (by simp))) (fun b hb => ?_)
    rcases List.mem_cons.1 hb with rfl | hb
    · exact .inl (by simp)
    · rcases k2 b hb with h1 | h1
      · exact .inl (by simp [h1])
      · exact .inr h1
theorem WriteString_ok {h : PH} {a : Nat} {bs ys : List UInt8} {F : List Nat} (hW : BAt h a bs F) (hl : bs.length + ys.length ≤ 140737488355328) {k : Value → PH → Prop} (hk : BNext h a F (bs ++ ys) (k (.tuple #[.int .i64 ys.length, .nilIface]))) :
    CallsH PG id_strings_Builder_WriteString #[.pointer (some ⟨a, 0, none⟩), .string (tx ys)] h k := by
  obtain ⟨p, v, G, ha, hp, hO, rfl, hn⟩ := hW
  apply strings_Builder_WriteString.call
  unfold strings_Builder_WriteString
  refine copyCheck_ok ha hp fun h1 ha1 u1 o1 => ?_
  have hc : cellH h1 ⟨a, 1, none⟩ = some v := by simp [cellH, ha1]
  have hO1 := hO.upd u1 (fun b hb hf => by simp at hf; subst hf; exact hn hb)
  simp only [T_strings_Builder.f1, T_sl_uint8.load, hc, T_string.len, tx_size, zSS, reduceIte]
  refine buf_str ha1 (.inr rfl) hO1 hn hl ?_
  intro h3 F3 hW3 u3 k3
  refine hk _ F3 hW3 ((u1.mono fun b hb => .inl (by simp at hb; simp [hb])).trans u3) fun b hb => ?_
  rcases k3 b hb with h' | h'
  · exact .inl h'
  · by_cases hba : b = a
    · exact .inl (by simp [hba])
    · rw [o1 b hba] at h'
      exact .inr h'
theorem semE_loadBytes {h : PH} : ∀ (l : List UInt8) (a : Addr) (acc : ByteArray), a.spot = none → (∀ j x, l[j]? = some x → cellH h (a.add j) = some (.int .u8 x.toNat)) → SemE PG h (loadBytes a acc l.length) = some ⟨acc.data ++ l.toArray⟩
  | [], a, acc, _, _ => by show some acc = _; simp
  | x :: xs, a, acc, hsp, hc => by
    have h0 := hc 0 x rfl
    have ha0 : a.add 0 = a := by obtain ⟨b, o, w⟩ := a; cases w <;> simp [Addr.add]
    rw [ha0] at h0
    show (cellH h a).bind _ = _
    rw [h0, Option.bind_some]
    show SemE PG h (loadBytes (a.add 1) (acc.push ((x.toNat : Int).toNat.toUInt8)) xs.length) = _
    rw [semE_loadBytes xs (a.add 1) _ (by obtain ⟨b, o, w⟩ := a; simp at hsp; subst hsp; rw [plain_add]) fun j y hy => ?_]
    · congr 1
      apply ByteArray.ext
      show (acc.push _).data ++ xs.toArray = _
      rw [ByteArray.data_push]
      apply Array.ext'
      simp
    · have := hc (j + 1) y (by simpa using hy)
      have e : (a.add 1).add j = a.add (j + 1) := by
        obtain ⟨b, o, w⟩ := a
        simp at hsp
        subst hsp
        rw [plain_add, plain_add, plain_add]; congr 1; omega
      rw [e]; exact this
theorem unsafeStr {h : PH} {g : Nat} {cs : Array Value} {bs : List UInt8} (hb : h g = some (.cells cs T_uint8 (0, 0))) (hle : bs.length ≤ cs.size) (hcs : cs.toList.take bs.length = bs.map fun b => Value.int .u8 b.toNat) (hne : bs ≠ []) (hmax : bs.length ≤ maxL) {k : Value → PH → Prop}
    (hk : ∀ h', Upd [g] h h' → k (.string (tx bs)) h') : SemH PG (Builtin.unsafeString_ #[T_p_uint8, T_int] T_string #[.pointer (some ⟨g, 0, none⟩), .int .i64 bs.length]) h k := by
  have hl : bs.length ≠ 0 := by simpa using hne
  have h63 : ¬ ((bs.length : Int) > IntKind.i64.max) := by
    have : IntKind.i64.max = 9223372036854775807 := rfl
    unfold maxL at hmax
    omega
  have hneg : ¬ (bs.length : Int) < 0 := by omega
  have hz : ¬ (bs.length : Int) = 0 := by omega
  have hdef : Builtin.unsafeString_ #[T_p_uint8, T_int] T_string #[.pointer (some ⟨g, 0, none⟩), .int .i64 bs.length] =
      (do
        let n ← asInt (.int .i64 bs.length)
        if n < 0 then runtimePanic (.error "unsafe.String: len out of range")
        if n > IntKind.i64.max then unsupported (.unsafePointer "String: a length above the largest int")
        if n = 0 then pure (.string .empty)
        else if ← variablesAt ⟨g, 0, none⟩ (← elemOf T_p_uint8) n.toNat then do
          let s ← loadBytes ⟨g, 0, none⟩ .empty n.toNat
          freeze ⟨g, 0, none⟩ n.toNat
          pure (.string s)
        else unsupported (.unsafePointer "String: not so many bytes at ptr")) := rfl
  rw [hdef]
  have hs : shapeH h g = some (some (T_uint8, cs.size)) := by unfold shapeH; rw [hb]
  have hv : SemE PG h (variablesAt ⟨g, 0, none⟩ T_uint8 bs.length) = some true := by
    show (shapeH h g).bind _ = _
    rw [hs]
    have hc1 : PG.cellsOf T_uint8 = 1 := by kernel_rfl
    have := Go.Lib.liesAt_bytes (P := PG) hc1 (cs.size / PG.cellsOf T_uint8) bs.length (by rw [hc1]; simpa using hle)
    show some (liesAt PG PG.depth T_uint8 (cs.size / PG.cellsOf T_uint8) 0 T_uint8 bs.length) = some true
    rw [this]
  have hlb := semE_loadBytes (h := h) bs ⟨g, 0, none⟩ .empty rfl (fun j x hx => by
    rw [plain_add]
    unfold cellH
    simp only [hb, Nat.zero_add]
    have hj : j < bs.length := (List.getElem?_eq_some_iff.1 hx).1
    have : (cs.toList.take bs.length)[j]? = some (.int .u8 x.toNat) := by rw [hcs, List.getElem?_map, hx]; rfl
    rw [List.getElem?_take, if_pos hj] at this
    simpa using this)
  have helem : SemE PG h (elemOf T_p_uint8) = some T_uint8 := by kernel_rfl
  simp only [asInt, asIntOf, pure_bind, map_pure, hneg, h63, hz, if_false, Int.toNat_natCast]
  refine semH_of_semE helem ?_
  refine semH_of_semE hv ?_
  simp only [if_true]
  refine semH_of_semE hlb ?_
  show (∃ o, h g = some o) ∧ _
  refine ⟨⟨_, hb⟩, ?_⟩
  have hfin := hk (freezeH h ⟨g, 0, none⟩ bs.length) (fun b o hbo hn => by
    unfold freezeH
    rw [if_neg hl, if_neg (by simpa using hn)]
    exact hbo)
  show k (.string _) _
  have e : (⟨ByteArray.empty.data ++ bs.toArray⟩ : ByteArray) = tx bs := by apply ByteArray.ext; simp [tx]
  rw [e]
  exact hfin
theorem unsafeNone {h : PH} {q : Option Addr} : SemE PG h (Builtin.unsafeString_ #[T_p_uint8, T_int] T_string #[.pointer q, .int .i64 0]) = some (.string (tx [])) := by
  cases q <;> rfl
theorem String_ok {h : PH} {a : Nat} {bs : List UInt8} {F : List Nat} (hW : BAt h a bs F) {k : Value → PH → Prop} (hk : ∀ h', Upd F h h' → k (.string (tx bs)) h') :
    CallsH PG id_strings_Builder_String #[.pointer (some ⟨a, 0, none⟩)] h k := by
  obtain ⟨p, v, G, ha, hp, hO, rfl, hn⟩ := hW
  have hc : cellH h ⟨a, 1, none⟩ = some v := by simp [cellH, ha]
  have lv := hO.slR.len (t' := T_int) T_sl_uint8.und
  rw [List.length_map] at lv
  apply strings_Builder_String.call
  unfold strings_Builder_String
  simp only [T_strings_Builder.f1, T_sl_uint8.load, hc, lv, zSS, reduceIte]
  have hload : ∀ h', cellH h' ⟨a, 1, none⟩ = some v → SemE PG h' (Instr.loadAt T_sl_uint8 (.pointer (some ⟨a, 1, none⟩))) = some v := fun h' h1 => by rw [T_sl_uint8.load]; exact h1
  rcases hO.here with ⟨rfl, hr, rfl⟩ | ⟨g, cap, cs, rfl, rfl, hb, hle, hmax, hsz, htk⟩
  · have hnil : bs = [] := by simpa using hr
    subst hnil
    refine SemE.semH (a := .pointer none) rfl ?_
    refine ⟨hc, ?_⟩
    refine SemE.semH unsafeNone ?_
    exact hk _ Upd.refl
  · simp only [List.length_map] at *
    by_cases hne : bs = []
    · subst hne
      by_cases hc0 : cap = 0
      · subst hc0
        have hs : shapeH h g = some (some (T_uint8, cs.size)) := by unfold shapeH; rw [hb]
        show SemH PG (viewAt g >>= _) h _
        refine semH_of_semE (a := none) (by rw [show viewAt g = (viewAt g >>= fun x => pure x) by simp, semE_viewAt hs]; rfl) ?_
        refine semH_of_semE (a := T_uint8) (by kernel_rfl) ?_
        intro r hr
        have u : Ext h (h.set r (.view ⟨g, 0, none⟩ T_uint8)) := Upd.new hr
        refine ⟨by rw [cellH]; simp [u.get ha], ?_⟩
        refine SemE.semH unsafeNone ?_
        exact hk _ u.upd
      · refine SemE.semH (a := .pointer (some ⟨g, 0, none⟩)) ?_ ?_
        · show SemE PG h (if cap ≠ 0 then _ else _) = _
          rw [if_pos hc0]; rfl
        · refine ⟨hc, ?_⟩
          refine SemE.semH unsafeNone ?_
          exact hk _ Upd.refl
    · have hpos : 0 < bs.length := List.length_pos_iff.2 hne
      refine SemE.semH (a := .pointer (some ⟨g, 0, none⟩)) ?_ ?_
      · show SemE PG h (if cap ≠ 0 then _ else _) = _
        rw [if_pos (by omega)]; rfl
      · refine ⟨hc, ?_⟩
        rw [Nat.mul_one, bcell.flat] at htk
        refine unsafeStr hb (by omega) htk hne (by omega) fun h' u => ?_
        exact hk _ (u.mono fun b hb => .inl (by simp at hb; simp [hb]))
end Bld
end Go.Proofs.YtcoajnpchhmgjaaGreatDoor
namespace Go.Proofs.YtcoajnpchhmgjaaGreatDoor
open Go
section
variable {P : Program} {t e : TypeId}
theorem semA_info {α : Type} {d : TypeInfo} (hi : P.info? t = some d) (f : TypeInfo → Sem α) : SemA P (typeInfo t >>= f) = SemA P (f d) := by
  show SemA P ((match P.info? t with | some d => pure d | none => stuck _ : Sem TypeInfo).bind f) = _
  rw [hi]; rfl
theorem semA_askRoom {α : Type} {n : Nat} (f : Unit → Sem α) : SemA P (askRoom n >>= f) = SemA P (f ()) := by
  unfold askRoom
  split <;> rfl
theorem range_flat (z : Array Value) (hz : 0 < z.size) : ∀ n : Nat, ((Array.range (n * z.size)).map (z[· % z.size]!)).toList = (List.replicate n z.toList).flatten := by
  intro n
  have hr : Rows z.size (List.replicate n z.toList) := fun r hr => by rw [List.eq_of_mem_replicate hr]; simp
  apply List.ext_getElem?
  intro j
  have hfl : (List.replicate n z.toList).flatten.length = n * z.size := by rw [hr.flat, List.length_replicate]
  by_cases hj : j < n * z.size
  · have hi : j / z.size < n := (Nat.div_lt_iff_lt_mul hz).2 hj
    have hat := hr.at (i := j / z.size) (r := z.toList) (by rw [List.getElem?_replicate, if_pos hi])
    have hc : j % z.size < z.size := Nat.mod_lt _ hz
    have e1 : (List.replicate n z.toList).flatten[j]? = z.toList[j % z.size]? := by
      conv => rhs; rw [← hat]
      rw [List.getElem?_take, if_pos hc, List.getElem?_drop]
      congr 1
      rw [Nat.mul_comm]; exact (Nat.div_add_mod j z.size).symm
    rw [e1]
    simp [hj, hc]
  · rw [List.getElem?_eq_none (by simp; omega), List.getElem?_eq_none (by omega)]
set_option maxRecDepth 100000 in
theorem makeSlice_eq {i : TypeInfo} {z : Value} {size bytes n : Nat} (hu : P.underlying t = some (.slice e)) (hi : P.info? e = some i) (hn : i.size = size) (hb : i.bytes = bytes) (hz : i.zero = some z) (hzs : z.cells.size = size) (h0 : 0 < size)
    (hle : bytes * n ≤ 281474976710656) (hnn : n ≤ 1000000000) :
    ∃ zs, SemA P (Instr.makeSlice t (.int .i64 n) (.int .i64 n)) = some (.cells zs e (0, 0), fun r => pure (.slice (some ⟨r, 0, none⟩) n n)) ∧ zs.toList = (List.replicate n z.cells.toList).flatten := by
  refine ⟨(Array.range (n * z.cells.size)).map (z.cells[· % z.cells.size]!), ?_, range_flat _ (by omega) n⟩
  have hw : IntKind.i64.wrap (n : Int) = n := IntWalk.i64_in _ ⟨by omega, by omega⟩
  unfold Instr.makeSlice
  rw [semA_und hu]
  dsimp only
  show SemA P (typeInfo e >>= _) = _
  rw [semA_info hi, hb]
  have hc1 : ((bytes : Int) * (n : Int) > 2 ^ 48) = False := by
    apply eq_false
    have : ((bytes * n : Nat) : Int) ≤ ((281474976710656 : Nat) : Int) := Int.ofNat_le.2 hle
    rw [Int.natCast_mul] at this
    have h2 : (2 : Int) ^ 48 = ((281474976710656 : Nat) : Int) := by rfl
    omega
  have hc2 : ((n : Int) < 0) = False := by apply eq_false; omega
  have hc3 : ((n : Int) > (n : Int)) = False := by apply eq_false; omega
  simp only [hw, hc1, hc2, hc3, decide_false, Bool.or_self, Bool.false_eq_true, if_false, or_self]
  rw [semA_askRoom, sizeOf_bind, semA_info hi, hn]
  simp only [Int.toNat_natCast]
  by_cases hn0 : n = 0
  · subst hn0
    have hr : ∀ f : Nat → Value, (Array.range 0).map f = #[] := fun f => by simp
    simp only [Nat.zero_mul, if_true, hr]
    rfl
  · have hne : (n * size = 0) = False := by apply eq_false; intro h; rcases Nat.mul_eq_zero.1 h with h | h <;> omega
    simp only [hne, if_false]
    have hzv : ∀ (f : Value → Sem Value), SemA P (zeroValue e >>= f) = SemA P (f z) := fun f => by
      unfold zeroValue
      show SemA P ((typeInfo e >>= _) >>= f) = _
      simp only [bind_assoc]
      rw [semA_info hi, hz]; rfl
    rw [hzv, ← hzs]
    rfl
end
end Go.Proofs.YtcoajnpchhmgjaaGreatDoor
namespace Go.Proofs.YtcoajnpchhmgjaaGreatDoor
open Go Bld
set_option maxRecDepth 20000
theorem first_str {h : PH} {l : List UInt8} : SemE PG h (Builtin.firstCells 1 l.length (.string (tx l))) = some (l.map fun b => Value.int .u8 b.toNat).toArray := by
  show some (((tx l).extract 0 l.length).data.map fun b => Value.int .u8 b.toNat) = _
  congr 1
  apply Array.ext'
  rw [ByteArray.data_extract]
  simp [tx, List.extract_eq_take_drop]
theorem copy_str {h : PH} {r : Nat} {c : Array Value} {l : List UInt8} (hb : h r = some (.cells c T_uint8 (0, 0))) (hc : c.size = l.length) (hl : l ≠ []) {k : Value → PH → Prop}
    (hk : k (.int .i64 l.length) (h.set r (.cells (l.map fun b => Value.int .u8 b.toNat).toArray T_uint8 (0, 0)))) :
    SemH PG (Builtin.copy_ #[T_sl_uint8, T_string] T_int #[.slice (some ⟨r, 0, none⟩) l.length l.length, .string (tx l)]) h k := by
  have hmin : Nat.min l.length l.length = l.length := Nat.min_self _
  simp only [Builtin.copy_, List.getElem?_toArray, List.getElem?_cons_zero, List.getElem?_cons_succ, semH_und T_sl_uint8.und, sizeOf_bind, semH_info T_uint8.info, pure_bind, Builtin.lenOf, T_uint8.size, tx_size, hmin]
  refine semH_of_semE (s := Builtin.firstCells 1 l.length (.string (tx l))) first_str ?_
  refine SemH.bind (P := PG) (s := storeCells _ _) ?_
  refine semH_storeCells (b := r) (o := 0) (l.map fun b => Value.int .u8 b.toNat) 0 h c hb (by simp [hc]) (fun v hv => by obtain ⟨b, -, rfl⟩ := List.mem_map.1 hv; rfl) ?_
  rw [if_neg (by simpa using hl), writeA_all (by simp [hc])]
  exact hk
theorem StrClone_ok {h : PH} {l : List UInt8} (hl : l.length ≤ 1000000000) {k : Value → PH → Prop} (hk : ∀ h', Ext h h' → k (.string (tx l)) h') : CallsH PG id_strings_Clone #[.string (tx l)] h k := by
  apply strings_Clone.call
  unfold strings_Clone
  apply internal_stringslite_Clone.call
  unfold internal_stringslite_Clone
  simp only [T_string.len, tx_size, eqlI, zSS, reduceIte]
  by_cases h0 : l = []
  · subst h0
    simp only [List.length_nil, show (((0 : Nat) : Int) == 0) = true from rfl, zSS, reduceIte]
    exact hk _ Upd.refl
  · have hpos : l.length ≠ 0 := by simpa using h0
    have e0 : (((l.length : Nat) : Int) == 0) = false := by simpa using h0
    obtain ⟨zs', hm, hz⟩ := makeSlice_eq (P := PG) (n := l.length) T_sl_uint8.und T_uint8.info T_uint8.size T_uint8.bytes T_uint8.zero rfl (by decide) (by omega) hl
    have hsz : zs'.size = l.length := by
      rw [← Array.length_toList, hz]
      simp [Value.cells]
    simp only [e0, hm, zSS, reduceIte]
    intro r hr
    refine popO_pure ?_
    try rw [bindH_eq]
    have u1 : Ext h (h.set r (.cells zs' T_uint8 (0, 0))) := Upd.new hr
    have a1 : (h.set r (.cells zs' T_uint8 (0, 0))) r = some (.cells zs' T_uint8 (0, 0)) := set_same
    generalize h.set r (.cells zs' T_uint8 (0, 0)) = h1 at *
    refine copy_str a1 hsz h0 ?_
    have u2 : Ext h (h1.set r (.cells (l.map fun b => Value.int .u8 b.toNat).toArray T_uint8 (0, 0))) := u1.fresh (Upd.set (F := [r]) (by simp)) (Fresh.one hr)
    have a2 : (h1.set r (.cells (l.map fun b => Value.int .u8 b.toNat).toArray T_uint8 (0, 0))) r = some (.cells (l.map fun b => Value.int .u8 b.toNat).toArray T_uint8 (0, 0)) := set_same
    generalize h1.set r (.cells (l.map fun b => Value.int .u8 b.toNat).toArray T_uint8 (0, 0)) = h2 at *
    have ea : SemP PG (Instr.indexAt T_sl_uint8 (.slice (some ⟨r, 0, none⟩) l.length l.length) (.int .i64 0)) = some (.pointer (some ⟨r, 0, none⟩)) := by
      have := indexAt_slice (P := PG) (t := T_sl_uint8) (b := r) (o := 0) (len := l.length) (cap := l.length) (k := .i64) (j := 0) T_sl_uint8.und T_uint8.info T_uint8.size (by decide) (by omega)
      simpa using this
    simp only [ea, T_sl_uint8.len, zSS, reduceIte]
    refine unsafeStr a2 (by simp) (by rw [List.toList_toArray]; exact List.take_of_length_le (by simp)) h0 (by unfold maxL; omega) fun h' u => ?_
    exact hk _ (u2.fresh u (Fresh.one hr))
def HAt (h : PH) (a : Nat) (s : S8) (r : List UInt8) (n : Nat) : Prop := h a = some (.cells (hcells s (.string (tx r)) (.int .i64 n)) T_sha_Hash (0, 0))
def restLen (a : Nat) : List Value → PH → Nat := fun _ h => match h a with
  | some (Obj.cells c _ _) => match c[8]? with
    | some (Value.string t) => t.size
    | _ => 0
  | _ => 0
theorem HAt.len {h : PH} {a : Nat} {s : S8} {r : List UInt8} {n : Nat} (H : HAt h a s r n) {vs : List Value} : restLen a vs h = r.length := by
  unfold HAt at H
  simp [restLen, H, hcells, tx_size]
theorem KAt.ne {h : PH} (H : KAt h) {a : Nat} {s : S8} {x y : Value} {t : TypeId} (ha : h a = some (.cells (hcells s x y) t (0, 0))) : a ≠ 0 := by
  rintro rfl
  obtain ⟨t, fr, hb⟩ := H
  rw [hb] at ha
  have := congrArg Array.size (Obj.cells.inj (Option.some.inj ha)).1
  rw [List.size_toArray, List.length_map, kT_len] at this
  simp [hcells] at this
theorem KAt.upd {h h' : PH} (H : KAt h) {F : List Nat} (u : Upd F h h') (hF : 0 ∉ F) : KAt h' := by
  obtain ⟨t, fr, hb⟩ := H
  exact ⟨t, fr, u.get hb hF⟩
theorem set9 {s : S8} {x y v : Value} : (hcells s x y).setIfInBounds 9 v = hcells s x v := rfl
theorem set8 {s : S8} {x y v : Value} : (hcells s x y).setIfInBounds 8 v = hcells s v y := rfl
theorem Write_ok {h : PH} {a : Nat} {s : S8} {r p : List UInt8} {n : Nat} (hK : KAt h) (ha : HAt h a s r n) (hl : r.length + p.length ≤ 1000000000) (hn : n + p.length ≤ 1000000000000) {k : Value → PH → Prop}
    (hk : ∀ h', Upd [a] h h' → HAt h' a (absorb s (r ++ p)).1 (absorb s (r ++ p)).2 (n + p.length) → k (.tuple #[]) h') : CallsH PG id_sha_Hash_Write #[.pointer (some ⟨a, 0, none⟩), .string (tx p)] h k := by
  apply sha_Hash_Write.call
  unfold sha_Hash_Write
  have hne := hK.ne ha
  have c9 : cellH h ⟨a, 0 + 9, none⟩ = some (.int .i64 n) := by unfold HAt at ha; simp [cellH, ha, hcells]
  have e1 : IntKind.i64.wrap ((n : Int) + (p.length : Int)) = ((n + p.length : Nat) : Int) := by rw [i64_wrap (by omega) (by omega)]; omega
  simp only [T_sha_Hash.f2, T_int.load, c9, T_string.len, tx_size, e1, zSS, reduceIte]
  refine store_cell T_int.und rfl ha (by simp [hcells]) rfl T_int.info T_int.size ?_
  rw [show 0 + 9 = 9 from rfl, set9]
  have u1 : Upd [a] h (h.set a (.cells (hcells s (.string (tx r)) (.int .i64 ((n + p.length : Nat) : Int))) T_sha_Hash (0, 0))) := Upd.set (by simp)
  have a1 : HAt (h.set a (.cells (hcells s (.string (tx r)) (.int .i64 ((n + p.length : Nat) : Int))) T_sha_Hash (0, 0))) a s r (n + p.length) := set_same
  generalize h.set a (.cells (hcells s (.string (tx r)) (.int .i64 ((n + p.length : Nat) : Int))) T_sha_Hash (0, 0)) = h1 at *
  have c8 : cellH h1 ⟨a, 0 + 8, none⟩ = some (.string (tx r)) := by unfold HAt at a1; simp [cellH, a1, hcells]
  simp only [T_sha_Hash.f1, T_string.load, c8, add_tx (show r.length + p.length ≤ 9223372036854775807 by omega), zSS, reduceIte]
  refine StrClone_ok (by simpa using hl) fun h2 u2 => ?_
  have a2 : HAt h2 a s r (n + p.length) := u2.get a1
  refine store_cell T_string.und rfl a2 (by simp [hcells]) rfl T_string.info T_string.size ?_
  rw [show 0 + 8 = 8 from rfl, set8]
  have u3 : Upd [a] h (h2.set a (.cells (hcells s (.string (tx (r ++ p))) (.int .i64 ((n + p.length : Nat) : Int))) T_sha_Hash (0, 0))) := (u1.trans u2.upd).trans (Upd.set (by simp))
  have a3 : HAt (h2.set a (.cells (hcells s (.string (tx (r ++ p))) (.int .i64 ((n + p.length : Nat) : Int))) T_sha_Hash (0, 0))) a s (r ++ p) (n + p.length) := set_same
  generalize h2.set a (.cells (hcells s (.string (tx (r ++ p))) (.int .i64 ((n + p.length : Nat) : Int))) T_sha_Hash (0, 0)) = h3 at *
  generalize n + p.length = m at *
  have hrl : (r ++ p).length ≤ 1000000000 := by simpa using hl
  generalize hrp : r ++ p = q at *
  refine ⟨fun vs h' => ∃ s' r', vs = [.pointer (some ⟨a, 0, none⟩)] ∧ r'.length ≤ 1000000000 ∧ absorb s' r' = absorb s q ∧ Upd [a] h h' ∧ HAt h' a s' r' m, restLen a, ⟨s, q, rfl, hrl, rfl, u3, a3⟩, ?_⟩
  rintro ρ h' ⟨s', r', hvs, hr', hab, u', a'⟩
  simp only [List.map_cons, List.map_nil, List.cons.injEq, and_true] at hvs
  have hlen := a'.len (vs := [ρ 0])
  simp only [hvs, List.map_cons, List.map_nil] at hlen ⊢
  unfold sha_Hash_Write_b21
  have c8 : cellH h' ⟨a, 0 + 8, none⟩ = some (.string (tx r')) := by unfold HAt at a'; simp [cellH, a', hcells]
  simp only [T_sha_Hash.f1, T_string.load, c8, T_string.len, tx_size, zSS, reduceIte]
  by_cases h64 : 64 ≤ r'.length
  · have e2 : ((64 : Int) ≤ (r'.length : Int)) = True := eq_true (by omega)
    have ec : SemP PG (Instr.sliceAt T_string (.string (tx r')) none (some (.int .i64 64)) none) = some (.string (tx (r'.take 64))) := cut_tx (i := 0) (j := 64) T_string.und (.inl ⟨rfl, rfl⟩) (.inr ⟨_, rfl⟩) (by omega) h64
    have ed : SemP PG (Instr.sliceAt T_string (.string (tx r')) (some (.int .i64 64)) none none) = some (.string (tx (r'.drop 64))) := by
      have := cut_tx (P := PG) (t := T_string) (l := r') (i := 64) (j := r'.length) (lo := some (.int .i64 64)) T_string.und (.inr ⟨_, rfl⟩) (.inl ⟨rfl, rfl⟩) h64 (Nat.le_refl _)
      rw [List.take_length] at this
      exact this
    simp only [e2, T_sha_Hash.f0, ec, zSS, reduceIte]
    refine mix_ok (hK.upd u' (by simpa using fun h => hne h.symm)) (by simp; omega) a' fun h4 u4 a4 => ?_
    have c8' : cellH h4 ⟨a, 0 + 8, none⟩ = some (.string (tx r')) := by simp [cellH, a4, hcells]
    simp only [T_sha_Hash.f1, T_string.load, c8', ed, zSS, reduceIte]
    refine store_cell T_string.und rfl a4 (by simp [hcells]) rfl T_string.info T_string.size ?_
    rw [show 0 + 8 = 8 from rfl, set8]
    have a5 : HAt (h4.set a (.cells (hcells (mixP s' (r'.take 64)) (.string (tx (r'.drop 64))) (.int .i64 (m : Int))) T_sha_Hash (0, 0))) a (mixP s' (r'.take 64)) (r'.drop 64) m := set_same
    refine ⟨⟨_, _, (by trivial), (by simp; omega), by rw [← absorb_ge h64]; exact hab, (u'.trans u4).trans (Upd.set (by simp)), a5⟩, ?_⟩
    rw [a5.len, hlen]
    simp
    omega
  · have e2 : ((64 : Int) ≤ (r'.length : Int)) = False := eq_false (by omega)
    simp only [e2, zSS, reduceIte]
    refine hk _ u' ?_
    rw [← hab, absorb_lt (by omega)]
    exact a'
end Go.Proofs.YtcoajnpchhmgjaaGreatDoor
namespace Go.Proofs.YtcoajnpchhmgjaaGreatDoor
open Go Bld
set_option maxRecDepth 20000
theorem digits_size : ∀ (n t : Nat) (acc : Array Value), (Extern.BytealgMakeNoZero.digits n t acc).size = acc.size + n
  | 0, _, acc => rfl
  | n + 1, t, acc => by
    show (Extern.BytealgMakeNoZero.digits n (t / 256) (acc.push _)).size = _
    rw [digits_size n]
    simp
    omega
theorem mkNoZero_eq {n : Int} {h : PH} {Q : Next → PH → Prop} : SemH PG (callFunc id_internal_bytealg_MakeNoZero #[.int .i64 n]) h Q = SemH PG (Extern.BytealgMakeNoZero.makeNoZero #[] #[T_sl_uint8] #[.int .i64 n] >>= fun v => pure (Next.value v)) h Q := by kernel_rfl
theorem MakeNoZero_ok {h : PH} {n : Nat} (hn : n ≤ 140737488355328) {k : Value → PH → Prop}
    (hk : ∀ r cap (cs : Array Value), n ≤ cap → cap ≤ maxL → cs.size = cap → h r = none → k (.slice (some ⟨r, 0, none⟩) n cap) (h.set r (.cells cs T_uint8 (0, 0)))) : CallsH PG id_internal_bytealg_MakeNoZero #[.int .i64 n] h k := by
  refine .inr ?_
  rw [mkNoZero_eq]
  refine SemH.bind (P := PG) (s := Extern.BytealgMakeNoZero.makeNoZero #[] #[T_sl_uint8] #[.int .i64 n]) ?_
  have h1 : ((decide ((n : Int) < 0) || decide ((n : Int) > 2 ^ 48)) = true) = False := by
    apply eq_false
    have : ¬ ((n : Int) > 2 ^ 48) := by
      have h2 : (2 : Int) ^ 48 = 281474976710656 := by rfl
      omega
    have h3 : ¬ ((n : Int) < 0) := by omega
    simp [h3]
    omega
  show SemH PG (underlying T_sl_uint8 >>= _) h _
  rw [semH_und T_sl_uint8.und]
  dsimp only
  simp only [h1, if_false, pure_bind, Int.toNat_natCast]
  rw [semH_choose]
  intro tt
  rw [semH_askRoom, semH_choose]
  intro bb
  have hforced : (Question.appendCap n 0 5).forced = false := rfl
  rw [hforced]
  have hcut : n ≤ (Question.appendCap n 0 5).cut tt ∧ (Question.appendCap n 0 5).cut tt ≤ maxL := by
    have hpos : 0 < 2 ^ 63 - n := by omega
    have := Nat.mod_lt tt hpos
    simp only [Question.cut, maxL]
    omega
  generalize (if (Question.extern "internal/bytealg.MakeNoZero.bytes" 0).forced = true then 0 else (Question.extern "internal/bytealg.MakeNoZero.bytes" 0).cut bb) = B
  show SemH PG (newRow 5 _ >>= _) h _
  intro r hr
  exact ⟨_, rfl, hk r _ _ hcut.1 hcut.2 (by rw [digits_size]; exact Nat.zero_add _) hr⟩
theorem zB : zcells PG T_strings_Builder = #[.pointer none, .slice none 0 0] := by rw [T_strings_Builder.zc]; rfl
theorem BAt.zero {h : PH} {a : Nat} (ha : h a = some (.cells #[.pointer none, .slice none 0 0] T_strings_Builder (0, 0))) : BAt h a [] [a] := ⟨_, _, [], ha, .inl rfl, OwnR.nil, rfl, by simp⟩
theorem cap_nil : SemP PG (Builtin.cap_ #[T_sl_uint8] T_int #[.slice none 0 0]) = some (.int .i64 0) := by kernel_rfl
theorem cutnz {r cap : Nat} {n : Nat} : SemP PG (Instr.sliceAt T_sl_uint8 (.slice (some ⟨r, 0, none⟩) n cap) none (some (.int .i64 ((0 : Nat) : Int))) none) = some (.slice (some ⟨r, 0, none⟩) 0 cap) := by
  have := sliceAt_eq (P := PG) (t := T_sl_uint8) (a := some ⟨r, 0, none⟩) (len := n) (cap := cap) (l := 0) (hh := 0) (lo := none) (hi := some (.int .i64 ((0 : Nat) : Int))) T_sl_uint8.und T_uint8.info (.inl ⟨rfl, rfl⟩) (.inr ⟨_, rfl⟩) (by omega) (by omega)
  rw [this]
  by_cases hc : cap = 0
  · subst hc; simp
  · rw [if_neg hc]; simp [plain_add]
structure FB (h : PH) (a g cap : Nat) (bs : List UInt8) : Prop where
  here : ∃ (cs : Array Value) (f : Nat), h a = some (.cells #[.pointer (some ⟨a, 0, none⟩), .slice (some ⟨g, 0, none⟩) bs.length cap] T_strings_Builder (0, 0)) ∧ h g = some (.cells cs T_uint8 (0, f)) ∧ f ≤ bs.length ∧ bs.length ≤ cap ∧ cs.size = cap ∧ cs.toList.take bs.length = (bs.map fun b => Value.int .u8 b.toNat) ∧ g ≠ a ∧ cap ≤ maxL
def bufRest (r n : Nat) : List Value → PH → Nat := fun _ h => match h r with
  | some (Obj.cells c _ _) => match c[1]? with
    | some (Value.slice _ m _) => n - m
    | _ => 0
  | _ => 0
theorem FB.mu {h : PH} {a g cap : Nat} {bs : List UInt8} (H : FB h a g cap bs) {n : Nat} {vs : List Value} : bufRest a n vs h = n - bs.length := by
  obtain ⟨cs, f, ha, -⟩ := H
  simp [bufRest, ha]
theorem Grow_ok {h : PH} {a n : Nat} (ha : h a = some (.cells #[.pointer none, .slice none 0 0] T_strings_Builder (0, 0))) (hn : 0 < n) (hn2 : n ≤ 1000000) {k : Value → PH → Prop}
    (hk : ∀ h' g cap, FB h' a g cap [] → n ≤ cap → Upd [a] h h' → h g = none → k (.tuple #[]) h') : CallsH PG id_strings_Builder_Grow #[.pointer (some ⟨a, 0, none⟩), .int .i64 n] h k := by
  apply strings_Builder_Grow.call
  unfold strings_Builder_Grow
  refine copyCheck_ok ha (.inl rfl) fun h1 a1 u1 o1 => ?_
  have e1 : ((n : Int) < 0) = False := eq_false (by omega)
  have c1 : cellH h1 ⟨a, 0 + 1, none⟩ = some (.slice none 0 0) := by simp [cellH, a1]
  have e2 : IntKind.i64.wrap ((0 : Int) - ((0 : Nat) : Int)) = 0 := by rw [i64_wrap (by omega) (by omega)]; omega
  have e3 : ((0 : Int) < (n : Int)) = True := eq_true (by omega)
  simp only [e1, zSS, reduceIte]
  unfold strings_Builder_Grow_k5
  simp only [T_strings_Builder.f1, T_sl_uint8.load, c1, cap_nil, T_sl_uint8.len, e2, e3, zSS, reduceIte]
  apply strings_Builder_grow.call
  unfold strings_Builder_grow
  have e4 : IntKind.i64.wrap (2 * (0 : Int)) = 0 := by rw [i64_wrap (by omega) (by omega)]; omega
  have e5 : IntKind.i64.wrap ((0 : Int) + (n : Int)) = (n : Int) := by rw [i64_wrap (by omega) (by omega)]; omega
  simp only [T_strings_Builder.f1, T_sl_uint8.load, c1, cap_nil, T_sl_uint8.len, e4, e5, zSS, reduceIte]
  refine MakeNoZero_ok (by omega) fun r cap cs h2 h3 hsz hr => ?_
  have u2 : Ext h1 (h1.set r (.cells cs T_uint8 (0, 0))) := Upd.new hr
  have b2 : (h1.set r (.cells cs T_uint8 (0, 0))) r = some (.cells cs T_uint8 (0, 0)) := set_same
  generalize h1.set r (.cells cs T_uint8 (0, 0)) = h2' at *
  have a2 := u2.get a1
  have c1' : cellH h2' ⟨a, 0 + 1, none⟩ = some (.slice none 0 0) := by simp [cellH, a2]
  have hne : r ≠ a := fun e => by subst e; rw [a1] at hr; cases hr
  refine ⟨c1', ?_⟩
  simp only [T_strings_Builder.f1, T_sl_uint8.load, c1', cutnz, zSS, reduceIte]
  have hcp : SemE PG h2' (Builtin.copy_ #[T_sl_uint8, T_sl_uint8] T_int #[.slice (some ⟨r, 0, none⟩) 0 cap, .slice none 0 0]) = some (.int .i64 0) := by kernel_rfl
  refine SemE.semH hcp ?_
  refine store_cell T_sl_uint8.und rfl a2 (by simp) rfl T_sl_uint8.info T_sl_uint8.size ?_
  refine hk _ r cap ⟨cs, 0, set_same, by rw [set_other hne]; exact b2, by simp, by simp, by omega, by simp, hne, h3⟩ h2 ((u1.trans u2.upd).trans (Upd.set (by simp))) ?_
  rw [← o1 r hne]; exact hr
theorem and_zero : SemP PG (binOp .and T_uint64 (.int .u64 0) (.int .u64 4294967295)) = some (.int .u64 0) := by kernel_rfl
theorem and_one : SemP PG (binOp .and T_uint64 (.int .u64 1) (.int .u64 4294967295)) = some (.int .u64 1) := by kernel_rfl
theorem and_n : ∀ n : Fin 64, (BitVec.ofInt 64 (n.val : Int) &&& BitVec.ofInt 64 4294967295).toNat = n.val := by decide
theorem and_n' {n : Nat} (hn : n < 64) : SemP PG (binOp .and T_uint64 (.int .u64 (n : Int)) (.int .u64 4294967295)) = some (.int .u64 (n : Int)) := by
  have e : SemP PG (binOp .and T_uint64 (.int .u64 (n : Int)) (.int .u64 4294967295)) = some (.int .u64 (IntKind.u64.wrap ((BitVec.ofInt 64 (n : Int) &&& BitVec.ofInt 64 4294967295).toNat : Int))) := rfl
  have := and_n ⟨n, hn⟩
  simp only at this
  rw [e, this, u64_wrap (by omega) (by omega)]
theorem shr32 {n : Nat} (hn : n < 64) : SemP PG (binOp .shr T_uint64 (.int .u64 (n : Int)) (.int .u64 32)) = some (.int .u64 0) := by
  rw [shr_eq (by decide)]
  congr 2
  show (n : Int).fdiv (2 ^ 32) = 0
  rw [Int.fdiv_eq_ediv_of_nonneg _ (by decide)]
  have : (2 : Int) ^ 32 = 4294967296 := by rfl
  omega
theorem shr32' : SemP PG (binOp .shr T_uint64 (.int .u64 0) (.int .u64 32)) = some (.int .u64 0) := shr32 (n := 0) (by decide)
theorem shr321 : SemP PG (binOp .shr T_uint64 (.int .u64 1) (.int .u64 32)) = some (.int .u64 0) := shr32 (n := 1) (by decide)
theorem Mul_ok {h : PH} {n : Nat} (hn : n < 64) {k : Value → PH → Prop} (hk : k (.tuple #[.int .u64 0, .int .u64 n]) h) : CallsH PG id_math_bits_Mul #[.int .u64 1, .int .u64 n] h k := by
  apply math_bits_Mul.call
  unfold math_bits_Mul
  simp only [zSS, reduceIte]
  apply math_bits_Mul64.call
  unfold math_bits_Mul64
  have w0 : IntKind.u64.wrap 0 = 0 := rfl
  have wn : IntKind.u64.wrap (n : Int) = n := u64_wrap (by omega) (by omega)
  simp only [and_one, shr321, and_n' hn, shr32 hn, Int.one_mul, Int.zero_mul, Int.mul_zero, wn, w0, Int.add_zero, and_zero, shr32', zSS, reduceIte]
  exact hk
theorem semH_storeCellsF {b o f : Nat} {e : TypeId} {Q : Unit → PH → Prop} : ∀ (vs : List Value) (i : Nat) (h : PH) (c : Array Value), h b = some (.cells c e (0, f)) → f ≤ o + i → o + i + vs.length ≤ c.size → (∀ v ∈ vs, isCell v = true) →
    Q () (if vs = [] then h else h.set b (.cells (writeA c (o + i) vs) e (0, f))) → SemH PG (storeCells ⟨b, o, none⟩ vs i) h Q
  | [], i, h, c, _, _, _, _, hq => by
    show Q () h
    simpa using hq
  | v :: vs, i, h, c, hb, hf, hle, hv, hq => by
    simp only [List.length_cons] at hle
    have hlt : o + i < c.size := by omega
    have ha : (⟨b, o, none⟩ : Addr).add i = ⟨b, o + i, none⟩ := plain_add ..
    show isCell v = true ∧ frozenH h ((⟨b, o, none⟩ : Addr).add i) = false ∧ (∃ u, cellH h ((⟨b, o, none⟩ : Addr).add i) = some u) ∧ SemH PG (storeCells ⟨b, o, none⟩ vs (i + 1)) (setCellH h ((⟨b, o, none⟩ : Addr).add i) v) Q
    rw [ha]
    refine ⟨hv v (by simp), by simp [frozenH, hb]; omega, ⟨c[o + i], by simp [cellH, hb, hlt]⟩, ?_⟩
    have hset : setCellH h ⟨b, o + i, none⟩ v = h.set b (.cells (c.setIfInBounds (o + i) v) e (0, f)) := by
      funext x
      unfold setCellH PH.set
      by_cases hx : x = b
      · subst hx; simp [hb]
      · simp [hx]
    rw [hset]
    refine semH_storeCellsF vs (i + 1) _ _ set_same (by omega) (by simp; omega) (fun u hu => hv u (by simp [hu])) ?_
    have h2 : ∀ o1 o2 : Obj, (h.set b o1).set b o2 = h.set b o2 := fun o1 o2 => by funext x; unfold PH.set; split <;> rfl
    simp only [List.cons_ne_nil, if_false] at hq
    split
    · rename_i hvs; subst hvs; simpa [writeA] using hq
    · rw [h2]; simpa [writeA, Nat.add_assoc] using hq
theorem unsafeStrF {h : PH} {g : Nat} {cs : Array Value} {fr : Nat × Nat} {bs : List UInt8} (hb : h g = some (.cells cs T_uint8 fr)) (hle : bs.length ≤ cs.size) (hcs : cs.toList.take bs.length = bs.map fun b => Value.int .u8 b.toNat) (hne : bs ≠ []) (hmax : bs.length ≤ maxL) {k : Value → PH → Prop}
    (hk : k (.string (tx bs)) (freezeH h ⟨g, 0, none⟩ bs.length)) : SemH PG (Builtin.unsafeString_ #[T_p_uint8, T_int] T_string #[.pointer (some ⟨g, 0, none⟩), .int .i64 bs.length]) h k := by
  have hl : bs.length ≠ 0 := by simpa using hne
  have h63 : ¬ ((bs.length : Int) > IntKind.i64.max) := by
    have : IntKind.i64.max = 9223372036854775807 := rfl
    unfold maxL at hmax
    omega
  have hneg : ¬ (bs.length : Int) < 0 := by omega
  have hz : ¬ (bs.length : Int) = 0 := by omega
  have hdef : Builtin.unsafeString_ #[T_p_uint8, T_int] T_string #[.pointer (some ⟨g, 0, none⟩), .int .i64 bs.length] =
      (do
        let n ← asInt (.int .i64 bs.length)
        if n < 0 then runtimePanic (.error "unsafe.String: len out of range")
        if n > IntKind.i64.max then unsupported (.unsafePointer "String: a length above the largest int")
        if n = 0 then pure (.string .empty)
        else if ← variablesAt ⟨g, 0, none⟩ (← elemOf T_p_uint8) n.toNat then do
          let s ← loadBytes ⟨g, 0, none⟩ .empty n.toNat
          freeze ⟨g, 0, none⟩ n.toNat
          pure (.string s)
        else unsupported (.unsafePointer "String: not so many bytes at ptr")) := rfl
  rw [hdef]
  have hs : shapeH h g = some (some (T_uint8, cs.size)) := by unfold shapeH; rw [hb]
  have hv : SemE PG h (variablesAt ⟨g, 0, none⟩ T_uint8 bs.length) = some true := by
    show (shapeH h g).bind _ = _
    rw [hs]
    have hc1 : PG.cellsOf T_uint8 = 1 := by kernel_rfl
    have := Go.Lib.liesAt_bytes (P := PG) hc1 (cs.size / PG.cellsOf T_uint8) bs.length (by rw [hc1]; simpa using hle)
    show some (liesAt PG PG.depth T_uint8 (cs.size / PG.cellsOf T_uint8) 0 T_uint8 bs.length) = some true
    rw [this]
  have hlb := semE_loadBytes (h := h) bs ⟨g, 0, none⟩ .empty rfl (fun j x hx => by
    rw [plain_add]
    unfold cellH
    simp only [hb, Nat.zero_add]
    have hj : j < bs.length := (List.getElem?_eq_some_iff.1 hx).1
    have : (cs.toList.take bs.length)[j]? = some (.int .u8 x.toNat) := by rw [hcs, List.getElem?_map, hx]; rfl
    rw [List.getElem?_take, if_pos hj] at this
    simpa using this)
  have helem : SemE PG h (elemOf T_p_uint8) = some T_uint8 := by kernel_rfl
  simp only [asInt, asIntOf, pure_bind, map_pure, hneg, h63, hz, if_false, Int.toNat_natCast]
  refine semH_of_semE helem ?_
  refine semH_of_semE hv ?_
  simp only [if_true]
  refine semH_of_semE hlb ?_
  show (∃ o, h g = some o) ∧ _
  refine ⟨⟨_, hb⟩, ?_⟩
  show k (.string _) _
  have e : (⟨ByteArray.empty.data ++ bs.toArray⟩ : ByteArray) = tx bs := by apply ByteArray.ext; simp [tx]
  rw [e]
  exact hk
theorem FB.len {h : PH} {a g cap : Nat} {bs : List UInt8} (H : FB h a g cap bs) {k : Value → PH → Prop} (hk : k (.int .i64 bs.length) h) : CallsH PG id_strings_Builder_Len #[.pointer (some ⟨a, 0, none⟩)] h k := by
  obtain ⟨cs, f, ha, -⟩ := H
  apply strings_Builder_Len.call
  unfold strings_Builder_Len
  have c1 : cellH h ⟨a, 0 + 1, none⟩ = some (.slice (some ⟨g, 0, none⟩) bs.length cap) := by simp [cellH, ha]
  simp only [T_strings_Builder.f1, T_sl_uint8.load, c1, T_sl_uint8.len, zSS, reduceIte]
  exact hk
theorem FB.string {h : PH} {a g cap : Nat} {bs : List UInt8} (H : FB h a g cap bs) (hne : bs ≠ []) {k : Value → PH → Prop} (hk : ∀ h', FB h' a g cap bs → Upd [g] h h' → k (.string (tx bs)) h') : CallsH PG id_strings_Builder_String #[.pointer (some ⟨a, 0, none⟩)] h k := by
  obtain ⟨cs, f, ha, hg, hf, hc, hsz, htk, hga, hmx⟩ := H
  have hpos : bs.length ≠ 0 := by simpa using hne
  apply strings_Builder_String.call
  unfold strings_Builder_String
  have c1 : cellH h ⟨a, 0 + 1, none⟩ = some (.slice (some ⟨g, 0, none⟩) bs.length cap) := by simp [cellH, ha]
  simp only [T_strings_Builder.f1, T_sl_uint8.load, c1, T_sl_uint8.len, zSS, reduceIte]
  refine SemE.semH (a := .pointer (some ⟨g, 0, none⟩)) ?_ ?_
  · show SemE PG h (if cap ≠ 0 then _ else _) = _
    rw [if_pos (by omega)]; rfl
  · refine ⟨c1, ?_⟩
    refine unsafeStrF hg (by omega) htk hne (by omega) ?_
    have hg' : freezeH h ⟨g, 0, none⟩ bs.length g = some (.cells cs T_uint8 (0, bs.length)) := by
      unfold freezeH
      rw [if_neg hpos, if_pos rfl]
      simp only [hg]
      by_cases h0 : f = 0
      · subst h0; simp
      · have : ((0 == f) = true) = False := by simp; omega
        simp only [this, if_false]
        congr 3
        · exact Nat.max_eq_right (by omega) |>.trans (Nat.zero_add _)
    have hoth : ∀ b, b ≠ g → freezeH h ⟨g, 0, none⟩ bs.length b = h b := fun b hb => by
      unfold freezeH
      rw [if_neg hpos, if_neg hb]
    exact hk _ ⟨cs, bs.length, by rw [hoth a hga.symm]; exact ha, hg', Nat.le_refl _, hc, hsz, htk, hga, hmx⟩ (fun b o hb hn => by rw [hoth b (by simpa using hn)]; exact hb)
theorem FB.write {h : PH} {a g cap : Nat} {bs ys : List UInt8} (H : FB h a g cap bs) (hle : bs.length + ys.length ≤ cap) (hcap : bs.length + ys.length ≤ 1000000) {k : Value → PH → Prop} (hk : ∀ v h', FB h' a g cap (bs ++ ys) → Upd [a, g] h h' → k v h') :
    CallsH PG id_strings_Builder_WriteString #[.pointer (some ⟨a, 0, none⟩), .string (tx ys)] h k := by
  obtain ⟨cs, f, ha, hg, hf, hc, hsz, htk, hga, hmx⟩ := H
  apply strings_Builder_WriteString.call
  unfold strings_Builder_WriteString
  refine copyCheck_ok ha (.inr rfl) fun h1 a1 u1 o1 => ?_
  have g1 : h1 g = some (.cells cs T_uint8 (0, f)) := by rw [o1 g hga]; exact hg
  have c1 : cellH h1 ⟨a, 0 + 1, none⟩ = some (.slice (some ⟨g, 0, none⟩) bs.length cap) := by simp [cellH, a1]
  simp only [T_strings_Builder.f1, T_sl_uint8.load, c1, T_string.len, tx_size, zSS, reduceIte]
  -- the append
  simp only [Builtin.append_, List.getElem?_toArray, List.getElem?_cons_zero, List.getElem?_cons_succ, semH_und T_sl_uint8.und, semH_und T_string.und, sizeOf_bind, semH_info T_uint8.info, pure_bind, Bool.false_eq_true, if_false, Builtin.lenOf, Bool.not_false, if_true, T_uint8.size, tx_size]
  rw [if_pos hle]
  refine semH_of_semE (first_str (l := ys)) ?_
  have hadd : (⟨g, 0, none⟩ : Addr).add (bs.length * 1) = ⟨g, bs.length, none⟩ := by rw [plain_add]; simp
  show SemH PG (storeCells ((⟨g, 0, none⟩ : Addr).add (bs.length * 1)) (ys.map fun b => Value.int .u8 b.toNat).toArray.toList >>= fun _ => pure _) h1 _
  rw [hadd]
  refine SemH.bind (P := PG) (s := storeCells _ _) ?_
  refine semH_storeCellsF (b := g) (o := bs.length) (f := f) (ys.map fun b => Value.int .u8 b.toNat) 0 h1 cs g1 (by omega) (by simp; omega) (fun v hv => by obtain ⟨b, -, rfl⟩ := List.mem_map.1 hv; rfl) ?_
  have key : ∀ h2 : PH, (∃ cs', h2 g = some (.cells cs' T_uint8 (0, f)) ∧ cs'.size = cap ∧ cs'.toList.take (bs.length + ys.length) = ((bs ++ ys).map fun b => Value.int .u8 b.toNat)) → h2 a = h1 a → Upd [g] h1 h2 →
      SemH PG (storeS T_sl_uint8 (.pointer (some ⟨a, 0 + 1, none⟩)) (.slice (some ⟨g, 0, none⟩) (bs.length + ys.length) cap)) h2 fun _ h3 => k (.tuple #[.int .i64 ys.length, .nilIface]) h3 := by
    intro h2 ⟨cs', hg2, hs2, ht2⟩ ha2 u2
    refine store_cell T_sl_uint8.und rfl (by rw [ha2]; exact a1) (by simp) rfl T_sl_uint8.info T_sl_uint8.size ?_
    refine hk _ _ ⟨cs', f, ?_, by rw [set_other hga]; exact hg2, by simp; omega, by simpa using hle, hs2, by simpa using ht2, hga, hmx⟩ (((u1.mono fun b hb => .inl (by simp at hb; simp [hb])).trans (u2.mono fun b hb => .inl (by simp at hb; simp [hb]))).trans (Upd.set (by simp)))
    rw [set_same]
    simp
  by_cases hy : ys = []
  · subst hy
    rw [if_pos (show (List.map (fun b => Value.int .u8 (b.toNat : Int)) ([] : List UInt8)) = [] from rfl)]
    exact key h1 ⟨cs, g1, hsz, by simpa using htk⟩ rfl Upd.refl
  · rw [if_neg (by simpa using hy)]
    refine key _ ⟨_, set_same, by rw [writeA_size]; exact hsz, ?_⟩ (set_other hga.symm) (Upd.set (by simp))
    rw [Nat.add_zero, writeA_list _ _ _ (by simp; omega), htk]
    rw [List.take_append_of_le_length (by simp), List.take_of_length_le (by simp), List.map_append]
theorem replicate_take {n m : Nat} (h : m ≤ n) : (List.replicate n (0 : UInt8)).take m = List.replicate m 0 := by rw [List.take_replicate, Nat.min_eq_left h]
theorem minI3 {ts : Array TypeId} {t : TypeId} {k : IntKind} {x y z : Int} : SemP PG (Builtin.min_ ts t #[.int k x, .int k y, .int k z]) = some (.int k (if z < (if y < x then y else x) then z else (if y < x then y else x))) := (rfl)
theorem cv_uint_int (x : Int) : SemP PG (convert T_uint T_int (.int .u64 x)) = some (.int .i64 (IntKind.i64.wrap x)) := by kernel_rfl
theorem Repeat_ok {h : PH} {n : Nat} (hn : n < 64) {k : Value → PH → Prop} (hk : ∀ h', Ext h h' → k (.string (tx (List.replicate n 0))) h') : CallsH PG id_strings_Repeat #[.string (tx [0]), .int .i64 n] h k := by
  apply strings_Repeat.call
  unfold strings_Repeat
  simp only [eqlI, zSS, reduceIte]
  by_cases h0 : n = 0
  · subst h0
    simp only [show (((0 : Nat) : Int) == 0) = true from rfl, zSS, reduceIte]
    exact hk _ Upd.refl
  · have e0 : ((n : Int) == 0) = false := by simpa using h0
    simp only [e0, zSS, reduceIte]
    by_cases h1 : n = 1
    · subst h1
      simp only [show (((1 : Nat) : Int) == 1) = true from rfl, zSS, reduceIte]
      exact hk _ Upd.refl
    · have e1 : ((n : Int) == 1) = false := by simp; omega
      have e2 : ((n : Int) < 0) = False := eq_false (by omega)
      simp only [e1, e2, zSS, reduceIte]
      unfold strings_Repeat_k5
      have w1 : IntKind.u64.wrap (([0] : List UInt8).length : Int) = 1 := rfl
      have wn : IntKind.u64.wrap (n : Int) = n := u64_wrap (by omega) (by omega)
      simp only [T_string.len, tx_size, cv_int_uint, w1, wn, zSS, reduceIte]
      refine Mul_ok hn ?_
      have e3 : ((9223372036854775807 : Int) < (n : Int)) = False := eq_false (by omega)
      simp only [extract_0, extract_1, show ((0 : Int) < 0) = False from eq_false (by decide), e3, zSS, reduceIte]
      unfold strings_Repeat_k23
      have wi : IntKind.i64.wrap (n : Int) = n := i64_wrap (by omega) (by omega)
      have i0 : SemP PG (Instr.index T_string (.string (tx [0])) (.int .i64 0)) = some (.int .u8 ((0 : UInt8).toNat : Int)) := index_tx (j := 0) T_string.und rfl
      have z0 : (((0 : UInt8).toNat : Int)) = 0 := rfl
      have w2 : (([0] : List UInt8).length : Int) = 1 := rfl
      have hz : ((1 : Int) == 0) = false := rfl
      have d1 : ((0 : Int) == 32) = false := rfl
      have d2 : ((0 : Int) == 45) = false := rfl
      have d3 : ((0 : Int) == 48) = false := rfl
      have d4 : ((0 : Int) == 61) = false := rfl
      have d5 : ((0 : Int) == 9) = false := rfl
      simp only [T_string.len, tx_size, cv_uint_int, wi, i0, z0, w2, hz, d1, d2, d3, d4, d5, zSS, reduceIte]
      unfold strings_Repeat_k29
      simp only [zSS, reduceIte]
      unfold strings_Repeat_k85 strings_Repeat_k86
      have e4 : ((8192 : Int) < (n : Int)) = False := eq_false (by omega)
      simp only [e4, zSS, reduceIte]
      unfold strings_Repeat_k94
      rw [zB]
      intro r hr
      try rw [bindH_eq]
      have u1 : Ext h (h.set r (.cells #[.pointer none, .slice none 0 0] T_strings_Builder)) := Upd.new hr
      have a1 : (h.set r (.cells #[.pointer none, .slice none 0 0] T_strings_Builder)) r = some (.cells #[.pointer none, .slice none 0 0] T_strings_Builder (0, 0)) := set_same
      generalize h.set r (.cells #[.pointer none, .slice none 0 0] T_strings_Builder) = h1 at *
      refine Grow_ok a1 (n := n) (by omega) (by omega) fun h2 g cap hF hcap u2 hg => ?_
      have ug : Upd [r, g] h h2 := (u1.upd.trans (u2.mono fun b hb => .inl (by simp at hb; simp [hb])))
      have hgn : h g = none := u1.none hg
      have fin : ∀ h', Upd [r, g] h h' → Ext h h' := fun h' u b o hb _ => u b o hb (by
        simp only [List.mem_cons, List.not_mem_nil, or_false, not_or]
        exact ⟨(fun e => by rw [e, hr] at hb; cases hb), (fun e => by rw [e, hgn] at hb; cases hb)⟩)
      refine FB.write hF (ys := [0]) (by simpa using by omega) (by simp) fun v h3 hF3 u3 => ?_
      refine ⟨fun vs h' => ∃ m, 1 ≤ m ∧ m ≤ n ∧ vs = [.int .i64 n, .int .i64 n, .pointer (some ⟨r, 0, none⟩)] ∧ Upd [r, g] h h' ∧ FB h' r g cap (List.replicate m 0), bufRest r n, ⟨1, by omega, by omega, rfl, ug.trans u3, hF3⟩, ?_⟩
      rintro ρ h' ⟨m, hm1, hm2, hvs, u', F'⟩
      simp only [List.map_cons, List.map_nil, List.cons.injEq, and_true] at hvs
      obtain ⟨v7, v8, v9⟩ := hvs
      have hr' := F'.mu (n := n) (vs := [ρ 7, ρ 8, ρ 9])
      simp only [v7, v8, v9, List.map_cons, List.map_nil, List.length_replicate] at hr' ⊢
      unfold strings_Repeat_b102
      refine F'.len ?_
      simp only [List.length_replicate, zSS, reduceIte]
      by_cases hmn : m < n
      · have f1 : ((m : Int) < (n : Int)) = True := eq_true (by omega)
        simp only [f1, zSS, reduceIte]
        refine F'.len ?_
        have f2 : IntKind.i64.wrap ((n : Int) - (m : Int)) = ((n - m : Nat) : Int) := by rw [i64_wrap (by omega) (by omega)]; omega
        simp only [List.length_replicate, f2, zSS, reduceIte]
        refine F'.len ?_
        have f3 : (if (n : Int) < (if (m : Int) < ((n - m : Nat) : Int) then (m : Int) else ((n - m : Nat) : Int)) then (n : Int) else (if (m : Int) < ((n - m : Nat) : Int) then (m : Int) else ((n - m : Nat) : Int))) = ((min m (n - m) : Nat) : Int) := by
          split <;> split <;> omega
        simp only [List.length_replicate, minI3, f3, zSS, reduceIte]
        refine F'.string (by simp; omega) fun h4 F4 u4 => ?_
        have ec : SemP PG (Instr.sliceAt T_string (.string (tx (List.replicate m 0))) none (some (.int .i64 ((min m (n - m) : Nat) : Int))) none) = some (.string (tx (List.replicate (min m (n - m)) 0))) := by
          have := cut_tx (P := PG) (t := T_string) (l := List.replicate m 0) (i := 0) (j := min m (n - m)) (lo := none) (hi := some (.int .i64 ((min m (n - m) : Nat) : Int))) T_string.und (.inl ⟨rfl, rfl⟩) (.inr ⟨_, rfl⟩) (by omega) (by simp; omega)
          rw [this, replicate_take (by omega), List.drop_zero]
        simp only [ec, zSS, reduceIte]
        refine F4.write (by simp; omega) (by simp; omega) fun v5 h5 F5 u5 => ?_
        rw [List.replicate_append_replicate] at F5
        refine ⟨⟨m + min m (n - m), by omega, by omega, (by trivial), (u'.trans (u4.mono fun b hb => .inl (by simp at hb; simp [hb]))).trans u5, F5⟩, ?_⟩
        rw [F5.mu, hr', List.length_replicate]
        omega
      · have f1 : ((m : Int) < (n : Int)) = False := eq_false (by omega)
        simp only [f1, zSS, reduceIte]
        refine F'.string (by simp; omega) fun h4 F4 u4 => ?_
        have : m = n := by omega
        subst this
        exact hk _ (fin _ (u'.trans (u4.mono fun b hb => .inl (by simp at hb; simp [hb]))))
end Go.Proofs.YtcoajnpchhmgjaaGreatDoor
namespace Go.Proofs.YtcoajnpchhmgjaaGreatDoor
open Go Bld
set_option maxRecDepth 20000
theorem index8_0 {s : S8} : SemP PG (Instr.index T_8_uint32 (.agg #[wv s.a, wv s.b, wv s.c, wv s.d, wv s.e, wv s.f, wv s.g, wv s.h]) (.int .i64 0)) = some (wv s.a) := by kernel_rfl
theorem index8_1 {s : S8} : SemP PG (Instr.index T_8_uint32 (.agg #[wv s.a, wv s.b, wv s.c, wv s.d, wv s.e, wv s.f, wv s.g, wv s.h]) (.int .i64 1)) = some (wv s.b) := by kernel_rfl
theorem index8_2 {s : S8} : SemP PG (Instr.index T_8_uint32 (.agg #[wv s.a, wv s.b, wv s.c, wv s.d, wv s.e, wv s.f, wv s.g, wv s.h]) (.int .i64 2)) = some (wv s.c) := by kernel_rfl
theorem index8_3 {s : S8} : SemP PG (Instr.index T_8_uint32 (.agg #[wv s.a, wv s.b, wv s.c, wv s.d, wv s.e, wv s.f, wv s.g, wv s.h]) (.int .i64 3)) = some (wv s.d) := by kernel_rfl
theorem index8_4 {s : S8} : SemP PG (Instr.index T_8_uint32 (.agg #[wv s.a, wv s.b, wv s.c, wv s.d, wv s.e, wv s.f, wv s.g, wv s.h]) (.int .i64 4)) = some (wv s.e) := by kernel_rfl
theorem index8_5 {s : S8} : SemP PG (Instr.index T_8_uint32 (.agg #[wv s.a, wv s.b, wv s.c, wv s.d, wv s.e, wv s.f, wv s.g, wv s.h]) (.int .i64 5)) = some (wv s.f) := by kernel_rfl
theorem index8_6 {s : S8} : SemP PG (Instr.index T_8_uint32 (.agg #[wv s.a, wv s.b, wv s.c, wv s.d, wv s.e, wv s.f, wv s.g, wv s.h]) (.int .i64 6)) = some (wv s.g) := by kernel_rfl
theorem index8_7 {s : S8} : SemP PG (Instr.index T_8_uint32 (.agg #[wv s.a, wv s.b, wv s.c, wv s.d, wv s.e, wv s.f, wv s.g, wv s.h]) (.int .i64 7)) = some (wv s.h) := by kernel_rfl
theorem index8 {s : S8} {i : Nat} (hi : i < 8) : SemP PG (Instr.index T_8_uint32 (.agg #[wv s.a, wv s.b, wv s.c, wv s.d, wv s.e, wv s.f, wv s.g, wv s.h]) (.int .i64 (i : Int))) = some (wv (s.l.getD i 0)) := by
  have : i = 0 ∨ i = 1 ∨ i = 2 ∨ i = 3 ∨ i = 4 ∨ i = 5 ∨ i = 6 ∨ i = 7 := by omega
  rcases this with rfl | rfl | rfl | rfl | rfl | rfl | rfl | rfl
  · exact index8_0
  · exact index8_1
  · exact index8_2
  · exact index8_3
  · exact index8_4
  · exact index8_5
  · exact index8_6
  · exact index8_7
def dnTo (slot : Nat) : List Value → PH → Nat := fun vs _ => match vs[slot]? with
  | some (Value.int _ v) => (v + 8).toNat
  | _ => 0
theorem byte32 (x : W) : Value.int .u8 (IntKind.u8.wrap (x.toNat : Int)) = .int .u8 ((UInt8.ofNat x.toNat).toNat : Int) := by
  rw [u8_wrap, UInt8.toNat_ofNat']
  congr 1
theorem cv_w_8 (x : W) : SemP PG (convert T_uint32 T_uint8 (wv x)) = some (.int .u8 ((UInt8.ofNat x.toNat).toNat : Int)) := by
  unfold wv
  rw [cv_32_8, byte32]
theorem wb_len (x : W) : (wb x).length = 4 := rfl
theorem shrj (x : W) {j : Nat} (hj : j < 4) : SemP PG (binOp .shr T_uint32 (wv x) (.int .i64 (24 - 8 * (j : Int)))) = some (wv (x >>> (24 - 8 * j))) := by
  have := w_shr (P := PG) (t := T_uint32) (x := x) (k := .i64) (n := 24 - 8 * j) (by omega)
  rw [← this]
  congr 3
  omega
theorem wb_take (x : W) {j : Nat} (hj : j < 4) : (wb x).take (j + 1) = (wb x).take j ++ [UInt8.ofNat (x >>> (24 - 8 * j)).toNat] := by
  have : j = 0 ∨ j = 1 ∨ j = 2 ∨ j = 3 := by omega
  rcases this with rfl | rfl | rfl | rfl
  · rfl
  · rfl
  · rfl
  · show wb x = [_, _, _] ++ [UInt8.ofNat (x >>> 0).toNat]
    rw [BitVec.ushiftRight_zero]; rfl
theorem dig_take (s : S8) {i : Nat} (hi : i < 8) : (s.l.take (i + 1)).flatMap wb = (s.l.take i).flatMap wb ++ wb (s.l.getD i 0) := by
  have : i = 0 ∨ i = 1 ∨ i = 2 ∨ i = 3 ∨ i = 4 ∨ i = 5 ∨ i = 6 ∨ i = 7 := by omega
  rcases this with rfl | rfl | rfl | rfl | rfl | rfl | rfl | rfl <;> rfl
theorem dig_len (s : S8) {i : Nat} (hi : i ≤ 8) : ((s.l.take i).flatMap wb).length ≤ 32 := by
  have : i = 0 ∨ i = 1 ∨ i = 2 ∨ i = 3 ∨ i = 4 ∨ i = 5 ∨ i = 6 ∨ i = 7 ∨ i = 8 := by omega
  rcases this with rfl | rfl | rfl | rfl | rfl | rfl | rfl | rfl | rfl <;> (simp [S8.l, wb])
theorem digest_ok {h : PH} {a : Nat} {s : S8} {x y : Value} (ha : h a = some (.cells (hcells s x y) T_sha_Hash (0, 0))) {k : Value → PH → Prop} (hk : ∀ h', Ext h h' → k (.string (tx (digestP s))) h') :
    CallsH PG id_sha_state_digest #[.pointer (some ⟨a, 0, none⟩)] h k := by
  apply sha_state_digest.call
  unfold sha_state_digest
  rw [zB]
  intro r hr
  try rw [bindH_eq]
  have u1 : Ext h (h.set r (.cells #[.pointer none, .slice none 0 0] T_strings_Builder)) := Upd.new hr
  have b1 : BAt (h.set r (.cells #[.pointer none, .slice none 0 0] T_strings_Builder)) r [] [r] := BAt.zero set_same
  generalize h.set r (.cells #[.pointer none, .slice none 0 0] T_strings_Builder) = h1 at *
  have ha1 := u1.get ha
  have lA := T_8_uint32.loadAgg (o := 0) ha1 (by simp [hcells])
  have lE : (hcells s x y).extract 0 (0 + 8) = #[wv s.a, wv s.b, wv s.c, wv s.d, wv s.e, wv s.f, wv s.g, wv s.h] := rfl
  rw [lE] at lA
  simp only [T_sha_state.f0, lA, zSS, reduceIte]
  refine ⟨fun vs h' => ∃ (i : Nat) (F : List Nat), i ≤ 8 ∧ vs = [.pointer (some ⟨r, 0, none⟩), .agg #[wv s.a, wv s.b, wv s.c, wv s.d, wv s.e, wv s.f, wv s.g, wv s.h], .int .i64 (i : Int)] ∧ BAt h' r ((s.l.take i).flatMap wb) F ∧ Fresh h F ∧ Ext h h', upTo 8 2, ⟨0, [r], by omega, rfl, b1, Fresh.one hr, u1⟩, ?_⟩
  rintro ρ h' ⟨i, F, hi, hvs, B, fF, u⟩
  simp only [List.map_cons, List.map_nil, List.cons.injEq, and_true] at hvs
  obtain ⟨v3, v10, v11⟩ := hvs
  simp only [v3, v10, v11, List.map_cons, List.map_nil]
  unfold sha_state_digest_b7
  by_cases hl : i < 8
  · have e1 : ((i : Int) < 8) = True := eq_true (by omega)
    simp only [e1, index8 hl, zSS, reduceIte]
    refine ⟨fun vs h' => ∃ (j : Nat) (F : List Nat), j ≤ 4 ∧ vs = [.pointer (some ⟨r, 0, none⟩), wv (s.l.getD i 0), .int .i64 (24 - 8 * (j : Int)), .agg #[wv s.a, wv s.b, wv s.c, wv s.d, wv s.e, wv s.f, wv s.g, wv s.h], .int .i64 (i : Int)] ∧ BAt h' r ((s.l.take i).flatMap wb ++ (wb (s.l.getD i 0)).take j) F ∧ Fresh h F ∧ Ext h h', dnTo 2, ⟨0, F, by omega, rfl, by simpa using B, fF, u⟩, ?_⟩
    rintro ρ2 h2 ⟨j, F2, hj, hvs, B2, fF2, u2⟩
    simp only [List.map_cons, List.map_nil, List.cons.injEq, and_true] at hvs
    obtain ⟨w3, w5, w6, w10, w11⟩ := hvs
    simp only [w3, w5, w6, w10, w11, List.map_cons, List.map_nil]
    unfold sha_state_digest_b11
    by_cases hj4 : j < 4
    · have e2 : ((0 : Int) ≤ 24 - 8 * (j : Int)) = True := eq_true (by omega)
      have e3 : IntKind.i64.wrap (24 - 8 * (j : Int) - 8) = 24 - 8 * ((j + 1 : Nat) : Int) := by rw [i64_wrap (by omega) (by omega)]; omega
      have hsh := shrj (s.l.getD i 0) hj4
      simp only [e2, hsh, cv_w_8, zSS, reduceIte]
      have hlen : ((s.l.take i).flatMap wb ++ (wb (s.l.getD i 0)).take j).length + 1 ≤ 140737488355328 := by
        have h1 := dig_len s hi
        have h2 : ((wb (s.l.getD i 0)).take j).length ≤ 4 := by rw [List.length_take, wb_len]; omega
        rw [List.length_append]
        omega
      refine WriteByte_ok B2 hlen _ ?_
      intro h3 F3 B3 u3 k3
      simp only [e3, zSS, reduceIte]
      refine ⟨⟨j + 1, F3, by omega, (by trivial), ?_, fF2.grow u2 k3, u2.fresh u3 fF2⟩, ?_⟩
      · rw [wb_take _ hj4, ← List.append_assoc]; exact B3
      · simp only [dnTo, List.getElem?_cons_succ, List.getElem?_cons_zero]
        omega
    · have hj' : j = 4 := by omega
      subst hj'
      have e2 : ((0 : Int) ≤ 24 - 8 * ((4 : Nat) : Int)) = False := eq_false (by decide)
      have e3 : IntKind.i64.wrap ((i : Int) + 1) = ((i + 1 : Nat) : Int) := by rw [i64_wrap (by omega) (by omega)]; omega
      simp only [e2, e3, zSS, reduceIte]
      refine ⟨⟨i + 1, F2, by omega, rfl, ?_, fF2, u2⟩, ?_⟩
      · rw [dig_take s hl]; exact B2
      · simp only [upTo, List.getElem?_cons_succ, List.getElem?_cons_zero]
        omega
  · have hi' : i = 8 := by omega
    subst hi'
    simp only [show (((8 : Nat) : Int) < 8) = False from eq_false (by decide), zSS, reduceIte]
    refine String_ok B fun h3 u3 => ?_
    exact hk _ (u.fresh u3 fF)
theorem cv_int_u64 (x : Int) : SemP PG (convert T_int T_uint64 (.int .i64 x)) = some (.int .u64 (IntKind.u64.wrap x)) := by kernel_rfl
theorem cv_u64_8 (x : Int) : SemP PG (convert T_uint64 T_uint8 (.int .u64 x)) = some (.int .u8 (IntKind.u8.wrap x)) := by kernel_rfl
theorem shr64 {n : Nat} {j : Nat} (hj : j < 8) : SemP PG (binOp .shr T_uint64 (.int .u64 (n : Int)) (.int .i64 (56 - 8 * (j : Int)))) = some (.int .u64 ((n / 256 ^ (8 - 1 - j) : Nat) : Int)) := by
  rw [shr_eq (by omega)]
  congr 2
  have e : min ((56 - 8 * (j : Int)).toNat) (IntKind.u64.bits) = 56 - 8 * j := by
    show min ((56 - 8 * (j : Int)).toNat) 64 = _
    omega
  have e2 : (256 : Nat) ^ (8 - 1 - j) = 2 ^ (56 - 8 * j) := by
    have : j = 0 ∨ j = 1 ∨ j = 2 ∨ j = 3 ∨ j = 4 ∨ j = 5 ∨ j = 6 ∨ j = 7 := by omega
    rcases this with rfl | rfl | rfl | rfl | rfl | rfl | rfl | rfl <;> decide
  rw [e, e2, Int.fdiv_eq_ediv_of_nonneg _ (Int.pow_nonneg (by decide)), Int.natCast_ediv, Int.natCast_pow]
  rfl
theorem byte64 (m : Nat) : Value.int .u8 (IntKind.u8.wrap (m : Int)) = .int .u8 ((UInt8.ofNat (m % 256)).toNat : Int) := by
  rw [u8_wrap, UInt8.toNat_ofNat']
  congr 1
  omega
theorem hc_cells {s : S8} {x : ByteArray} {k : IntKind} {n : Int} : ∀ v ∈ (hcells s (.string x) (.int k n)).toList, isCell v = true := by
  intro v hv
  simp only [hcells, List.mem_cons, List.not_mem_nil, or_false] at hv
  rcases hv with rfl | rfl | rfl | rfl | rfl | rfl | rfl | rfl | rfl | rfl <;> rfl
theorem HashSum_ok {h : PH} {a : Nat} {s : S8} {r : List UInt8} {n : Nat} (hK : KAt h) (ha : HAt h a s r n) (hr : r.length < 64) (hn : n ≤ 100000000000) {k : Value → PH → Prop}
    (hk : ∀ h', Ext h h' → k (.string (tx (digestP (absorb s (r ++ padP n)).1))) h') : CallsH PG id_sha_Hash_Sum #[.pointer (some ⟨a, 0, none⟩)] h k := by
  apply sha_Hash_Sum.call
  unfold sha_Hash_Sum
  have lA := T_sha_Hash.loadAgg (o := 0) ha (by simp [hcells])
  have lE : (hcells s (.string (tx r)) (.int .i64 n)).extract 0 (0 + 10) = hcells s (.string (tx r)) (.int .i64 n) := rfl
  rw [lE] at lA
  simp only [lA, zSS, reduceIte]
  intro r3 hr3
  try rw [bindH_eq]
  have u1 : Ext h (h.set r3 (.cells (zcells PG T_sha_Hash) T_sha_Hash)) := Upd.new hr3
  have a3 : (h.set r3 (.cells (zcells PG T_sha_Hash) T_sha_Hash)) r3 = some (.cells (zcells PG T_sha_Hash) T_sha_Hash (0, 0)) := set_same
  generalize h.set r3 (.cells (zcells PG T_sha_Hash) T_sha_Hash) = h1 at *
  refine store_box a3 T_sha_Hash.info rfl (by simp [hcells]) (by rw [T_sha_Hash.zc]; rfl) hc_cells ?_
  have u2 : Ext h (h1.set r3 (.cells (hcells s (.string (tx r)) (.int .i64 n)) T_sha_Hash (0, 0))) := u1.fresh (Upd.set (F := [r3]) (by simp)) (Fresh.one hr3)
  have a3' : HAt (h1.set r3 (.cells (hcells s (.string (tx r)) (.int .i64 n)) T_sha_Hash (0, 0))) r3 s r n := set_same
  generalize h1.set r3 (.cells (hcells s (.string (tx r)) (.int .i64 n)) T_sha_Hash (0, 0)) = h2 at *
  rw [zB]
  intro r7 hr7
  try rw [bindH_eq]
  have u3 : Ext h2 (h2.set r7 (.cells #[.pointer none, .slice none 0 0] T_strings_Builder)) := Upd.new hr7
  have b7 : BAt (h2.set r7 (.cells #[.pointer none, .slice none 0 0] T_strings_Builder)) r7 [] [r7] := BAt.zero set_same
  have n7 : h r7 = none := u2.none hr7
  generalize h2.set r7 (.cells #[.pointer none, .slice none 0 0] T_strings_Builder) = h3 at *
  have a3'' : HAt h3 r3 s r n := u3.get a3'
  have u4 := u2.trans u3
  have hF7 : ∀ b ∈ [r7], b ≠ r3 := by
    intro b hb
    simp at hb
    subst hb
    rintro rfl
    rw [a3'] at hr7; cases hr7
  refine ⟨fun vs h' => ∃ (j : Nat) (F : List Nat), j ≤ 8 ∧ vs = [.pointer (some ⟨a, 0, none⟩), .pointer (some ⟨r3, 0, none⟩), .pointer (some ⟨r7, 0, none⟩), .int .i64 (56 - 8 * (j : Int))] ∧ BAt h' r7 ((be (n * 8 % 18446744073709551616) 8).take j) F ∧ Fresh h F ∧ Ext h h' ∧ (∀ b ∈ F, b ≠ r3) ∧ HAt h' r3 s r n, dnTo 3, ⟨0, [r7], by omega, rfl, b7, Fresh.one n7, u4, hF7, a3''⟩, ?_⟩
  rintro ρ h' ⟨j, F, hj, hvs, B, fF, u, hF, ha'⟩
  simp only [List.map_cons, List.map_nil, List.cons.injEq, and_true] at hvs
  obtain ⟨v0, v3, v4, v5⟩ := hvs
  simp only [v0, v3, v4, v5, List.map_cons, List.map_nil]
  unfold sha_Hash_Sum_b10
  have hAt := u.get ha
  have c9 : cellH h' ⟨a, 0 + 9, none⟩ = some (.int .i64 n) := by simp [cellH, hAt, hcells]
  have en : n * 8 % 18446744073709551616 = n * 8 := Nat.mod_eq_of_lt (by omega)
  by_cases hl : j < 8
  · have e1 : ((0 : Int) ≤ 56 - 8 * (j : Int)) = True := eq_true (by omega)
    have e2 : IntKind.u64.wrap (n : Int) = (n : Int) := u64_wrap (by omega) (by omega)
    have e3 : IntKind.u64.wrap ((n : Int) * 8) = ((n * 8 : Nat) : Int) := by rw [u64_wrap (by omega) (by omega)]; omega
    have e4 : IntKind.i64.wrap (56 - 8 * (j : Int) - 8) = 56 - 8 * ((j + 1 : Nat) : Int) := by rw [i64_wrap (by omega) (by omega)]; omega
    simp only [e1, T_sha_Hash.f2, T_int.load, c9, cv_int_u64, e2, e3, shr64 hl, cv_u64_8, byte64, zSS, reduceIte]
    refine WriteByte_ok B (by rw [List.length_take, be_len]; omega) _ ?_
    intro h5 F5 B5 u5 k5
    simp only [e4, zSS, reduceIte]
    refine ⟨⟨j + 1, F5, by omega, (by trivial), ?_, fF.grow u k5, u.fresh u5 fF, fun b hb => ?_, u5.get ha' (fun hm => hF _ hm rfl)⟩, ?_⟩
    · rw [be_take_succ hl, en]
      rw [en] at B5
      exact B5
    · rcases k5 b hb with h1 | h1
      · exact hF b h1
      · rintro rfl
        unfold HAt at ha'
        rw [ha'] at h1; cases h1
    · simp only [dnTo, List.getElem?_cons_succ, List.getElem?_cons_zero]
      omega
  · have hj' : j = 8 := by omega
    subst hj'
    have e1 : ((0 : Int) ≤ 56 - 8 * ((8 : Nat) : Int)) = False := eq_false (by decide)
    have e2 : ((n : Int)).tmod 64 = ((n % 64 : Nat) : Int) := by rw [Int.tmod_eq_emod_of_nonneg (by omega)]; omega
    have e3 : IntKind.i64.wrap (119 - ((n % 64 : Nat) : Int)) = ((119 - n % 64 : Nat) : Int) := by rw [i64_wrap (by omega) (by omega)]; omega
    have e4 : (((119 - n % 64 : Nat) : Int)).tmod 64 = (((119 - n % 64) % 64 : Nat) : Int) := by rw [Int.tmod_eq_emod_of_nonneg (by omega)]; omega
    have d1 : ∀ (t : TypeId) (x : Int), SemP PG (binOp .rem t (.int .i64 x) (.int .i64 64)) = some (.int .i64 (x.tmod 64)) := fun t x => rem_eq (by decide)
    simp only [e1, T_sha_Hash.f2, T_int.load, c9, d1, e2, e3, e4, zSS, reduceIte]
    refine Repeat_ok (Nat.mod_lt _ (by decide)) fun h5 u5 => ?_
    have ex : ∀ (t : TypeId), SemP PG (binOp .add t (.string { data := #[128] }) (.string (tx (List.replicate ((119 - n % 64) % 64) 0)))) = some (.string (tx ([128] ++ List.replicate ((119 - n % 64) % 64) 0))) := fun t => add_tx (a := [128]) (by simp; omega)
    simp only [ex, zSS, reduceIte]
    have B5 := B.ext u5
    refine String_ok B5 fun h6 u6 => ?_
    have et : (be (n * 8 % 18446744073709551616) 8).take 8 = be (n * 8 % 18446744073709551616) 8 := List.take_of_length_le (Nat.le_of_eq (be_len _ _))
    rw [et]
    have ey : ∀ (t : TypeId), SemP PG (binOp .add t (.string (tx ([128] ++ List.replicate ((119 - n % 64) % 64) 0))) (.string (tx (be (n * 8 % 18446744073709551616) 8)))) = some (.string (tx (padP n))) := fun t => by
      rw [add_tx (by simp [be_len]; omega)]
      rfl
    simp only [ey, zSS, reduceIte]
    have a6 : HAt h6 r3 s r n := u6.get (u5.get ha') (fun hm => hF _ hm rfl)
    have u7 : Ext h h6 := (u.trans u5).fresh u6 fF
    have hpl : (padP n).length ≤ 80 := by
      simp only [padP, List.length_cons, List.length_append, List.length_replicate, be_len]
      have := Nat.mod_lt (119 - n % 64) (show 64 > 0 by decide)
      omega
    refine Write_ok (hK.ext u7) a6 (by omega) (by omega) fun h8 u8 a8 => ?_
    simp only [T_sha_Hash.f0, zSS, reduceIte]
    refine digest_ok a8 fun h9 u9 => ?_
    exact hk _ ((u7.fresh u8 (Fresh.one hr3)).trans u9)
end Go.Proofs.YtcoajnpchhmgjaaGreatDoor
namespace Go.Proofs.YtcoajnpchhmgjaaGreatDoor
open Go Bld
set_option maxRecDepth 20000
def scell (p : List UInt8) : List Value := [.string (tx p)]
theorem scell.rows (l : List (List UInt8)) : Rows 1 (l.map scell) := fun r hr => by
  obtain ⟨p, -, rfl⟩ := List.mem_map.1 hr; rfl
theorem ShaNew_ok {h : PH} {k : Value → PH → Prop} (hk : ∀ h' a, h a = none → Ext h h' → HAt h' a S0 [] 0 → k (.pointer (some ⟨a, 0, none⟩)) h') : CallsH PG id_sha_New #[] h k := by
  apply sha_New.call
  unfold sha_New
  apply sha_begin.call
  unfold sha_begin
  intro r1 hr1
  try rw [bindH_eq]
  have zS : zcells PG T_sha_state = (zs 8).toArray := by rw [T_sha_state.zc]; rfl
  rw [zS]
  have u1 : Ext h (h.set r1 (.cells (zs 8).toArray T_sha_state)) := Upd.new hr1
  have a1 : (h.set r1 (.cells (zs 8).toArray T_sha_state)) r1 = some (.cells (zs 8).toArray T_sha_state (0, 0)) := set_same
  generalize h.set r1 (.cells (zs 8).toArray T_sha_state) = h1 at *
  have b1 : SemP PG (Instr.build T_8_uint32 #[(0, (Value.int IntKind.u32 1779033703)), (1, (Value.int IntKind.u32 3144134277)), (2, (Value.int IntKind.u32 1013904242)), (3, (Value.int IntKind.u32 2773480762)), (4, (Value.int IntKind.u32 1359893119)), (5, (Value.int IntKind.u32 2600822924)), (6, (Value.int IntKind.u32 528734635)), (7, (Value.int IntKind.u32 1541459225))]) = some (.agg #[wv S0.a, wv S0.b, wv S0.c, wv S0.d, wv S0.e, wv S0.f, wv S0.g, wv S0.h]) := by kernel_rfl
  have b2 : SemP PG (Instr.build T_sha_state #[(0, .agg #[wv S0.a, wv S0.b, wv S0.c, wv S0.d, wv S0.e, wv S0.f, wv S0.g, wv S0.h])]) = some (.agg #[wv S0.a, wv S0.b, wv S0.c, wv S0.d, wv S0.e, wv S0.f, wv S0.g, wv S0.h]) := by kernel_rfl
  have b3 : SemP PG (Instr.build T_sha_Hash #[(0, .agg #[wv S0.a, wv S0.b, wv S0.c, wv S0.d, wv S0.e, wv S0.f, wv S0.g, wv S0.h])]) = some (.agg (hcells S0 (.string (tx [])) (.int .i64 (0 : Nat)))) := by kernel_rfl
  simp only [b1, b2, zSS, reduceIte]
  refine store_box a1 T_sha_state.info rfl (by simp) rfl (by simp [isw]) ?_
  have u2 : Ext h (h1.set r1 (.cells #[wv S0.a, wv S0.b, wv S0.c, wv S0.d, wv S0.e, wv S0.f, wv S0.g, wv S0.h] T_sha_state (0, 0))) := u1.fresh (Upd.set (F := [r1]) (by simp)) (Fresh.one hr1)
  have a2 : (h1.set r1 (.cells #[wv S0.a, wv S0.b, wv S0.c, wv S0.d, wv S0.e, wv S0.f, wv S0.g, wv S0.h] T_sha_state (0, 0))) r1 = some (.cells #[wv S0.a, wv S0.b, wv S0.c, wv S0.d, wv S0.e, wv S0.f, wv S0.g, wv S0.h] T_sha_state (0, 0)) := set_same
  generalize h1.set r1 (.cells #[wv S0.a, wv S0.b, wv S0.c, wv S0.d, wv S0.e, wv S0.f, wv S0.g, wv S0.h] T_sha_state (0, 0)) = h2 at *
  have lA := T_sha_state.loadAgg (o := 0) a2 (by simp)
  have lE : (#[wv S0.a, wv S0.b, wv S0.c, wv S0.d, wv S0.e, wv S0.f, wv S0.g, wv S0.h] : Array Value).extract 0 (0 + 8) = #[wv S0.a, wv S0.b, wv S0.c, wv S0.d, wv S0.e, wv S0.f, wv S0.g, wv S0.h] := rfl
  rw [lE] at lA
  simp only [lA, b3, zSS, reduceIte]
  intro a ha
  try rw [bindH_eq]
  exact hk _ a (u2.none ha) (u2.trans (Upd.new ha)) set_same
theorem Sum_ok {h : PH} {v : Value} {parts : List (List UInt8)} (hK : KAt h) (hs : SlR h 1 v (parts.map scell)) (hl : parts.flatten.length ≤ 100000000) {k : Value → PH → Prop} (hk : ∀ h', Ext h h' → k (.string (tx (sha parts.flatten))) h') :
    CallsH PG id_sha_Sum #[v] h k := by
  apply sha_Sum.call
  unfold sha_Sum
  refine ShaNew_ok fun h1 a hna u1 ha => ?_
  have hs1 := hs.ext u1
  have lv := hs1.len (t' := T_int) T_sl_string.und
  rw [List.length_map] at lv
  simp only [lv, zSS, reduceIte]
  have hsm := hs.small
  rw [List.length_map] at hsm
  unfold maxL at hsm
  refine ⟨fun vs h' => ∃ i, i ≤ parts.length ∧ vs = [.pointer (some ⟨a, 0, none⟩), v, .int .i64 parts.length, .int .i64 (i : Int)] ∧ Ext h h' ∧ HAt h' a (absorb S0 (parts.take i).flatten).1 (absorb S0 (parts.take i).flatten).2 (parts.take i).flatten.length, upTo parts.length 3, ⟨0, by omega, rfl, u1, by simpa [absorb_lt (s := S0) (l := []) (by simp)] using ha⟩, ?_⟩
  rintro ρ h' ⟨i, hi, hvs, u, ha'⟩
  simp only [List.map_cons, List.map_nil, List.cons.injEq, and_true] at hvs
  obtain ⟨v3, v7, v8, v9⟩ := hvs
  simp only [v3, v7, v8, v9, List.map_cons, List.map_nil]
  unfold sha_Sum_b5
  have hfl : (parts.take i).flatten.length ≤ parts.flatten.length := by
    have : parts.flatten = (parts.take i).flatten ++ (parts.drop i).flatten := by rw [← List.flatten_append, List.take_append_drop]
    rw [this, List.length_append]; omega
  by_cases hlt : i < parts.length
  · have e1 : ((i : Int) < (parts.length : Int)) = True := eq_true (by omega)
    have e2 : IntKind.i64.wrap ((i : Int) + 1) = ((i + 1 : Nat) : Int) := by rw [i64_wrap (by omega) (by omega)]; omega
    have hr : (parts.map scell)[(i : Int).toNat]? = some (scell parts[i]) := by rw [Int.toNat_natCast, List.getElem?_map, List.getElem?_eq_getElem hlt]; rfl
    obtain ⟨pa, hpa, hload⟩ := (hs.ext u).loadCell (t := T_sl_string) (k := .i64) (j := (i : Int)) T_sl_string.und T_string.info T_string.size T_string.und rfl (by omega) hr
    have ht : (parts.take (i + 1)).flatten = (parts.take i).flatten ++ parts[i] := by
      rw [List.take_succ_eq_append_getElem hlt, List.flatten_append]; simp
    have hfl2 : (parts.take (i + 1)).flatten.length ≤ parts.flatten.length := by
      have : parts.flatten = (parts.take (i + 1)).flatten ++ (parts.drop (i + 1)).flatten := by rw [← List.flatten_append, List.take_append_drop]
      rw [this, List.length_append]; omega
    rw [ht, List.length_append] at hfl2
    have hrest := absorb_rest S0 (parts.take i).flatten
    simp only [e1, hpa, hload, zSS, reduceIte]
    refine Write_ok (hK.ext u) ha' (by omega) (by omega) fun h2 u2 ha2 => ?_
    simp only [e2, zSS, reduceIte]
    refine ⟨⟨i + 1, by omega, rfl, u.fresh u2 (Fresh.one hna), ?_⟩, ?_⟩
    · rw [ht, absorb_app, List.length_append]; exact ha2
    · simp only [upTo, List.getElem?_cons_succ, List.getElem?_cons_zero]
      omega
  · have e1 : ((i : Int) < (parts.length : Int)) = False := eq_false (by omega)
    have hi' : i = parts.length := by omega
    simp only [e1, zSS, reduceIte]
    refine HashSum_ok (hK.ext u) ha' (absorb_rest _ _) (by omega) fun h2 u2 => ?_
    have := hk h2 (u.trans u2)
    unfold sha at this
    rw [absorb_app] at this
    rw [hi', List.take_length]
    exact this
end Go.Proofs.YtcoajnpchhmgjaaGreatDoor
namespace Go.Proofs.YtcoajnpchhmgjaaGreatDoor
open Go Bld
set_option maxRecDepth 20000
structure Pr where
  (k v : Tx)
deriving DecidableEq
def Pr.cells (p : Pr) : List Value := [.string (tx p.k), .string (tx p.v)]
def Pr.val (p : Pr) : Value := .agg #[.string (tx p.k), .string (tx p.v)]
theorem Pr.rows (l : List Pr) : Rows 2 (l.map Pr.cells) := fun r hr => by
  obtain ⟨p, -, rfl⟩ := List.mem_map.1 hr; rfl
theorem Pr.isCell (l : List Pr) : ∀ r ∈ l.map Pr.cells, ∀ u ∈ r, isCell u = true := fun r hr u hu => by
  obtain ⟨p, -, rfl⟩ := List.mem_map.1 hr
  simp only [Pr.cells, List.mem_cons, List.not_mem_nil, or_false] at hu
  rcases hu with rfl | rfl <;> rfl
theorem bytesLess_eq : ∀ (x y : List UInt8), Op.bytesLess x y = decide (x < y)
  | [], [] => by simp [Op.bytesLess]
  | _ :: _, [] => by simp [Op.bytesLess]
  | [], _ :: _ => by simp [Op.bytesLess]
  | a :: x, b :: y => by
    rw [Op.bytesLess, bytesLess_eq x y]
    simp only [List.cons_lt_cons_iff]
    by_cases h1 : a < b <;> by_cases h2 : a = b <;> by_cases h3 : x < y <;> simp [h1, h2, h3]
theorem tx_toList (l : Tx) : (tx l).toList = l := by rw [ByteArray.toList_eq]; simp [tx]
theorem tx_total (a b : Tx) : a < b ∨ a = b ∨ b < a := by
  by_cases h1 : a < b
  · exact .inl h1
  · by_cases h2 : b < a
    · exact .inr (.inr h2)
    · exact .inr (.inl (List.le_antisymm h2 h1))
section
variable {P : Program} {t : TypeId} {a b : Tx} {h : PH}
theorem lss_tx : SemP P (binOp .lss t (.string (tx a)) (.string (tx b))) = some (.bool (decide (a < b))) := by
  have e : SemP P (binOp .lss t (.string (tx a)) (.string (tx b))) = some (.bool (Op.bytesLess (tx a).toList (tx b).toList)) := rfl
  rw [e, tx_toList, tx_toList, bytesLess_eq]
theorem gtr_tx : SemP P (binOp .gtr t (.string (tx a)) (.string (tx b))) = some (.bool (decide (b < a))) := by
  have e : SemP P (binOp .gtr t (.string (tx a)) (.string (tx b))) = some (.bool (!(Op.bytesLess (tx a).toList (tx b).toList || (tx a).toList == (tx b).toList))) := rfl
  rw [e, tx_toList, tx_toList, bytesLess_eq]
  congr 2
  rcases tx_total a b with h | h | h
  · have h2 : ¬ b < a := List.lt_asymm h
    simp [h, h2]
  · subst h
    simp [List.lt_irrefl]
  · have h2 : ¬ a < b := List.lt_asymm h
    have h3 : a ≠ b := by rintro rfl; exact List.lt_irrefl _ h
    simp [h, h2, h3]
end
theorem cv_int_8 (x : Int) : SemP PG (convert T_int T_uint8 (.int .i64 x)) = some (.int .u8 (IntKind.u8.wrap x)) := by kernel_rfl
theorem mone_ok {h : PH} {n : Nat} {k : Value → PH → Prop} (hk : ∀ h', Ext h h' → k (.string (tx [UInt8.ofNat (n % 256)])) h') : CallsH PG id_merkle_one #[.int .i64 n] h k := by
  apply merkle_one.call
  unfold merkle_one
  simp only [cv_int_8, byte64, byte_lit, zSS, reduceIte]
  intro r hr
  refine popO_pure ?_
  try rw [bindH_eq]
  have u : Ext h (h.set r (.cells #[.int .u8 ((UInt8.ofNat (n % 256)).toNat : Int)] T_uint8)) := Upd.new hr
  have s : SlR (h.set r (.cells #[.int .u8 ((UInt8.ofNat (n % 256)).toNat : Int)] T_uint8)) 1 (.slice (some ⟨r, 0, none⟩) 1 1) ([UInt8.ofNat (n % 256)].map bcell) := (OwnR.lit (bcell.rows [UInt8.ofNat (n % 256)]) set_same (by simp) (by decide) (by simp [bcell])).slR
  have hcv : SemE PG _ (convert T_sl_uint8 T_string (.slice (some ⟨r, 0, none⟩) 1 1)) = some (.string (tx [UInt8.ofNat (n % 256)])) := conv_bytes T_sl_uint8.und T_uint8.und T_string.und s
  rw [hcv, popO_some]
  exact hk _ u
theorem lit3s (a b c : ByteArray) : SemA PG (Instr.buildSlice T_sl_string 3 #[(0, .string a), (1, .string b), (2, .string c)]) = some (.cells #[.string a, .string b, .string c] T_string, fun r => pure (.slice (some ⟨r, 0, none⟩) 3 3)) := by kernel_rfl
theorem lit5s (a b c d e : ByteArray) : SemA PG (Instr.buildSlice T_sl_string 5 #[(0, .string a), (1, .string b), (2, .string c), (3, .string d), (4, .string e)]) = some (.cells #[.string a, .string b, .string c, .string d, .string e] T_string, fun r => pure (.slice (some ⟨r, 0, none⟩) 5 5)) := by kernel_rfl
def bothP (l r : Tx) : Tx := sha (1 :: (l ++ r))
def leafP (p : Pr) : Tx := sha (0 :: UInt8.ofNat (p.k.length % 256) :: (p.k ++ UInt8.ofNat (p.v.length % 256) :: p.v))
theorem both_ok {h : PH} {l r : Tx} (hK : KAt h) (hl : l.length + r.length ≤ 10000000) {k : Value → PH → Prop} (hk : ∀ h', Ext h h' → k (.string (tx (bothP l r))) h') : CallsH PG id_merkle_both #[.string (tx l), .string (tx r)] h k := by
  apply merkle_both.call
  unfold merkle_both
  simp only [lit3s, zSS, reduceIte]
  intro b hb
  refine popO_pure ?_
  try rw [bindH_eq]
  have u : Ext h (h.set b (.cells #[.string ⟨#[1]⟩, .string (tx l), .string (tx r)] T_string)) := Upd.new hb
  have s : SlR (h.set b (.cells #[.string ⟨#[1]⟩, .string (tx l), .string (tx r)] T_string)) 1 (.slice (some ⟨b, 0, none⟩) 3 3) ([[1], l, r].map scell) := (OwnR.lit (scell.rows [[1], l, r]) set_same (by simp) (by decide) rfl).slR
  refine Sum_ok (hK.ext u) s (by simp; omega) fun h' u' => ?_
  have e : bothP l r = sha [[1], l, r].flatten := by simp [bothP]
  rw [e] at hk
  exact hk _ (u.trans u')
theorem pairBox (p : Pr) : Value.cells p.val = #[.string (tx p.k), .string (tx p.v)] := rfl
theorem Leaf_ok {h : PH} {p : Pr} (hK : KAt h) (hl : p.k.length + p.v.length ≤ 10000000) {k : Value → PH → Prop} (hk : ∀ h', Ext h h' → k (.string (tx (leafP p))) h') : CallsH PG id_merkle_Leaf #[p.val] h k := by
  apply merkle_Leaf.call
  unfold merkle_Leaf
  rw [pairBox]
  intro r hr
  try rw [bindH_eq]
  have u1 : Ext h (h.set r (.cells #[.string (tx p.k), .string (tx p.v)] T_api_Pair)) := Upd.new hr
  have a1 : (h.set r (.cells #[.string (tx p.k), .string (tx p.v)] T_api_Pair)) r = some (.cells #[.string (tx p.k), .string (tx p.v)] T_api_Pair (0, 0)) := set_same
  generalize h.set r (.cells #[.string (tx p.k), .string (tx p.v)] T_api_Pair) = h1 at *
  have c0 : cellH h1 ⟨r, 0, none⟩ = some (.string (tx p.k)) := by simp [cellH, a1]
  have c1 : cellH h1 ⟨r, 0 + 1, none⟩ = some (.string (tx p.v)) := by simp [cellH, a1]
  simp only [T_api_Pair.f0, T_api_Pair.f1, T_string.load, c0, c1, T_string.len, tx_size, zSS, reduceIte]
  refine mone_ok fun h2 u2 => ?_
  have a2 := u2.get a1
  have c0' : cellH h2 ⟨r, 0, none⟩ = some (.string (tx p.k)) := by simp [cellH, a2]
  have c1' : cellH h2 ⟨r, 0 + 1, none⟩ = some (.string (tx p.v)) := by simp [cellH, a2]
  simp only [T_string.load, c0', c1', true_and]
  refine mone_ok fun h3 u3 => ?_
  have a3 := u3.get a2
  have c0'' : cellH h3 ⟨r, 0, none⟩ = some (.string (tx p.k)) := by simp [cellH, a3]
  have c1'' : cellH h3 ⟨r, 0 + 1, none⟩ = some (.string (tx p.v)) := by simp [cellH, a3]
  simp only [T_string.load, c0'', c1'', true_and, lit5s, zSS, reduceIte]
  intro b hb
  refine popO_pure ?_
  try rw [bindH_eq]
  have u4 : Ext h3 (h3.set b (.cells #[.string ⟨#[0]⟩, .string (tx [UInt8.ofNat (p.k.length % 256)]), .string (tx p.k), .string (tx [UInt8.ofNat (p.v.length % 256)]), .string (tx p.v)] T_string)) := Upd.new hb
  have s : SlR (h3.set b (.cells #[.string ⟨#[0]⟩, .string (tx [UInt8.ofNat (p.k.length % 256)]), .string (tx p.k), .string (tx [UInt8.ofNat (p.v.length % 256)]), .string (tx p.v)] T_string)) 1 (.slice (some ⟨b, 0, none⟩) 5 5) ([[0], [UInt8.ofNat (p.k.length % 256)], p.k, [UInt8.ofNat (p.v.length % 256)], p.v].map scell) := (OwnR.lit (n := 5) (scell.rows [[0], [UInt8.ofNat (p.k.length % 256)], p.k, [UInt8.ofNat (p.v.length % 256)], p.v]) set_same (by simp) (by decide) rfl).slR
  have u := ((u1.trans u2).trans u3).trans u4
  refine Sum_ok (hK.ext u) s (by simp; omega) fun h' u' => ?_
  have e : leafP p = sha [[0], [UInt8.ofNat (p.k.length % 256)], p.k, [UInt8.ofNat (p.v.length % 256)], p.v].flatten := by simp [leafP]
  rw [e] at hk
  exact hk _ (u.trans u')
def lenP (x : Nat) : Nat := if x = 0 then 0 else Nat.log2 x + 1
theorem lenTab : (List.range 256).all (fun x => lit3[x]? == some (UInt8.ofNat (lenP x))) = true := by kernel_rfl
theorem lenTab' {x : Nat} (hx : x < 256) : lit3[x]? = some (UInt8.ofNat (lenP x)) := by
  have := List.all_eq_true.1 lenTab x (List.mem_range.2 hx)
  simpa using this
theorem lenP_lt {x : Nat} (hx : x < 256) : lenP x < 256 := by
  unfold lenP
  split
  · decide
  · have := Nat.log2_lt (n := x) (k := 8) (by omega)
    have := this.2 (by simpa using hx)
    omega
theorem lenP_shift {x : Nat} (h1 : 256 ≤ x) : lenP x = lenP (x / 256) + 8 := by
  have h2 : x / 256 ≠ 0 := by omega
  unfold lenP
  rw [if_neg (by omega), if_neg h2]
  have : Nat.log2 x = Nat.log2 (x / 256) + 8 := by
    rw [Nat.log2_eq_iff (by omega)]
    have a := (Nat.log2_eq_iff (n := x / 256) (k := Nat.log2 (x / 256)) h2).1 rfl
    rw [Nat.pow_add, Nat.pow_add, Nat.pow_add]
    rw [Nat.pow_add] at a
    omega
  omega
theorem cv_8_int (x : Int) : SemP PG (convert T_uint8 T_int (.int .u8 x)) = some (.int .i64 (IntKind.i64.wrap x)) := by kernel_rfl
theorem k11_ok {h : PH} {x n : Nat} (hx : x < 256) (hn : n ≤ 64) {k : Value → PH → Prop} (hk : k (.int .i64 ((n + lenP x : Nat) : Int)) h) : math_bits_Len64_k11 k (.int .u64 (x : Int)) (.int .i64 (n : Int)) h := by
  unfold math_bits_Len64_k11
  have e0 : (⟨lit3⟩ : ByteArray) = tx lit3.toList := by simp [tx]
  have e1 : IntKind.u8.wrap (x : Int) = x := by rw [u8_wrap]; omega
  have hl := lenP_lt hx
  have e2 : SemP PG (Instr.index T_string (.string ⟨lit3⟩) (.int .u8 (x : Int))) = some (.int .u8 ((UInt8.ofNat (lenP x)).toNat : Int)) := by
    rw [e0]
    exact index_tx T_string.und (by rw [Array.getElem?_toList]; exact lenTab' hx)
  have e3 : ((UInt8.ofNat (lenP x)).toNat : Int) = ((lenP x : Nat) : Int) := by rw [UInt8.toNat_ofNat']; congr 1; exact Nat.mod_eq_of_lt hl
  have e4 : IntKind.i64.wrap ((lenP x : Nat) : Int) = ((lenP x : Nat) : Int) := i64_wrap (by omega) (by omega)
  have e5 : IntKind.i64.wrap ((n : Int) + ((lenP x : Nat) : Int)) = ((n + lenP x : Nat) : Int) := by rw [i64_wrap (by omega) (by omega)]; omega
  simp only [cv_u64_8, e1, e2, e3, cv_8_int, e4, e5, zSS, reduceIte]
  exact hk
theorem shr8 {n : Nat} : SemP PG (binOp .shr T_uint64 (.int .u64 (n : Int)) (.int .u64 8)) = some (.int .u64 ((n / 256 : Nat) : Int)) := by
  rw [shr_eq (by decide)]
  congr 2
  show (n : Int).fdiv (2 ^ 8) = _
  rw [Int.fdiv_eq_ediv_of_nonneg _ (by decide)]
  have : (2 : Int) ^ 8 = 256 := by rfl
  omega
theorem BitsLen_ok {h : PH} {x : Nat} (hx : x < 65536) {k : Value → PH → Prop} (hk : k (.int .i64 ((lenP x : Nat) : Int)) h) : CallsH PG id_math_bits_Len #[.int .u64 (x : Int)] h k := by
  apply math_bits_Len.call
  unfold math_bits_Len
  simp only [zSS, reduceIte]
  apply math_bits_Len64.call
  unfold math_bits_Len64
  have e1 : ((4294967296 : Int) ≤ (x : Int)) = False := eq_false (by omega)
  have e2 : ((65536 : Int) ≤ (x : Int)) = False := eq_false (by omega)
  simp only [e1, zSS, reduceIte]
  unfold math_bits_Len64_k3
  simp only [e2, zSS, reduceIte]
  unfold math_bits_Len64_k7
  by_cases h8 : 256 ≤ x
  · have e3 : ((256 : Int) ≤ (x : Int)) = True := eq_true (by omega)
    have e4 : IntKind.i64.wrap ((0 : Int) + 8) = ((8 : Nat) : Int) := rfl
    simp only [e3, shr8, e4, zSS, reduceIte]
    refine k11_ok (by omega) (by decide) ?_
    rw [lenP_shift h8, Nat.add_comm] at hk
    exact hk
  · have e3 : ((256 : Int) ≤ (x : Int)) = False := eq_false (by omega)
    simp only [e3, zSS, reduceIte]
    refine k11_ok (n := 0) (by omega) (by decide) ?_
    rw [Nat.zero_add]; exact hk
def leftP (n : Nat) : Nat := 2 ^ Nat.log2 (n - 1)
theorem leftP_lt {n : Nat} (h : 2 ≤ n) : 1 ≤ leftP n ∧ leftP n < n := by
  unfold leftP
  have := (Nat.log2_eq_iff (n := n - 1) (k := Nat.log2 (n - 1)) (by omega)).1 rfl
  have h2 : 0 < 2 ^ Nat.log2 (n - 1) := Nat.pow_pos (by decide)
  omega
theorem left_ok {h : PH} {n : Nat} (h2 : 2 ≤ n) (hn : n ≤ 65536) {k : Value → PH → Prop} (hk : k (.int .i64 ((leftP n : Nat) : Int)) h) : CallsH PG id_merkle_left #[.int .i64 (n : Int)] h k := by
  apply merkle_left.call
  unfold merkle_left
  have e1 : IntKind.i64.wrap ((n : Int) - 1) = ((n - 1 : Nat) : Int) := by rw [i64_wrap (by omega) (by omega)]; omega
  have e2 : IntKind.u64.wrap ((n - 1 : Nat) : Int) = ((n - 1 : Nat) : Int) := u64_wrap (by omega) (by omega)
  simp only [e1, cv_int_uint, e2, zSS, reduceIte]
  refine BitsLen_ok (by omega) ?_
  have hlt := leftP_lt h2
  have hlen : lenP (n - 1) = Nat.log2 (n - 1) + 1 := by unfold lenP; rw [if_neg (by omega)]
  have hlog : Nat.log2 (n - 1) < 16 := (Nat.log2_lt (by omega)).2 (by omega)
  have e3 : IntKind.i64.wrap (((lenP (n - 1) : Nat) : Int) - 1) = ((Nat.log2 (n - 1) : Nat) : Int) := by rw [i64_wrap (by omega) (by omega)]; omega
  have e4 : ∀ t, SemP PG (binOp .shl t (.int .i64 1) (.int .i64 ((Nat.log2 (n - 1) : Nat) : Int))) = some (.int .i64 ((leftP n : Nat) : Int)) := fun t => by
    rw [shl_eq (by omega)]
    have em : min (((Nat.log2 (n - 1) : Nat) : Int).toNat) (IntKind.i64.bits) = Nat.log2 (n - 1) := by
      show min _ 64 = _
      omega
    have ep : (1 : Int) * 2 ^ Nat.log2 (n - 1) = ((leftP n : Nat) : Int) := by
      unfold leftP
      rw [Int.one_mul, Int.natCast_pow]; rfl
    rw [em, ep, i64_wrap (by omega) (by omega)]
  simp only [e3, e4, zSS, reduceIte]
  exact hk
end Go.Proofs.YtcoajnpchhmgjaaGreatDoor
namespace Go.Proofs.YtcoajnpchhmgjaaGreatDoor
open Go Bld
set_option maxRecDepth 20000
def digP (l : List Pr) : Tx := if h : 2 ≤ l.length then bothP (digP (l.take (leftP l.length))) (digP (l.drop (leftP l.length))) else leafP (l.headD ⟨[], []⟩)
termination_by l.length
decreasing_by
  · have := leftP_lt h; simp; omega
  · have := leftP_lt h; simp; omega
theorem digP_len (l : List Pr) : (digP l).length = 32 := by
  rw [digP]
  split <;> rfl
def MSmall (l : List Pr) : Prop := ∀ p ∈ l, p.k.length + p.v.length ≤ 1000000
theorem SlR.pair {h : PH} {v : Value} {l : List Pr} (S : SlR h 2 v (l.map Pr.cells)) {j : Nat} {p : Pr} (hp : l[j]? = some p) :
    ∃ b o, SemP PG (Instr.indexAt T_sl_api_Pair v (.int .i64 (j : Int))) = some (.pointer (some ⟨b, o, none⟩)) ∧ cellH h ⟨b, o, none⟩ = some (.string (tx p.k)) ∧ cellH h ⟨b, o + 1, none⟩ = some (.string (tx p.v)) ∧ SemE PG h (Instr.loadAt T_api_Pair (.pointer (some ⟨b, o, none⟩))) = some p.val := by
  obtain ⟨b, o, h1, h2, h3⟩ := S.fields T_sl_api_Pair.und T_api_Pair.info T_api_Pair.size (k := .i64) (j := j) (r := p.cells) (by rw [List.getElem?_map, hp]; rfl)
  exact ⟨b, o, h1, h2 0 _ rfl, h2 1 _ rfl, h3 _ T_api_Pair.und rfl⟩
theorem SlR.cutP {h : PH} {v : Value} {l : List Pr} (S : SlR h 2 v (l.map Pr.cells)) {lo hi : Option Value} {a m : Nat} (hlo : lo = none ∧ a = 0 ∨ ∃ k, lo = some (.int k a)) (hhi : hi = none ∧ m = l.length ∨ ∃ k, hi = some (.int k m)) (h1 : a ≤ m) (h2 : m ≤ l.length) :
    ∃ v', SemP PG (Instr.sliceAt T_sl_api_Pair v lo hi none) = some v' ∧ SlR h 2 v' (((l.take m).drop a).map Pr.cells) := by
  obtain ⟨v', e, s, -⟩ := S.cut T_sl_api_Pair.und T_api_Pair.info T_api_Pair.size hlo (by simpa using hhi) h1 (by simpa using h2)
  refine ⟨v', e, ?_⟩
  rw [List.map_drop, List.map_take]
  exact s
theorem digest'_ok : ∀ (n : Nat) {h : PH} {v : Value} {l : List Pr}, l.length ≤ n → l ≠ [] → l.length ≤ 65536 → KAt h → SlR h 2 v (l.map Pr.cells) → MSmall l → ∀ {k : Value → PH → Prop}, (∀ h', Ext h h' → k (.string (tx (digP l))) h') → CallsH PG id_merkle_digest #[v] h k
  | 0, _, _, l, h0, hne, _, _, _, _, _, _ => by
    have : l = [] := List.eq_nil_of_length_eq_zero (by omega)
    exact absurd this hne
  | n + 1, h, v, l, hn, hne, hl, hK, S, hs, k, hk => by
    apply merkle_digest.call
    unfold merkle_digest
    have lv := S.len (t' := T_int) T_sl_api_Pair.und
    rw [List.length_map] at lv
    have hpos : 0 < l.length := List.length_pos_iff.2 hne
    by_cases h1 : l.length = 1
    · have e1 : ((l.length : Int) == 1) = true := by simp [h1]
      obtain ⟨p, hp⟩ := List.length_eq_one_iff.1 h1
      obtain ⟨b, o, e2, -, -, e3⟩ := S.pair (j := 0) (p := p) (by rw [hp]; rfl)
      rw [show ((0 : Nat) : Int) = 0 from rfl] at e2
      simp only [lv, e1, e2, e3, zSS, reduceIte]
      have hd : digP l = leafP p := by
        rw [digP, dif_neg (by omega), hp]; rfl
      rw [hd] at hk
      refine Leaf_ok hK (by have := hs p (by rw [hp]; simp); omega) fun h' u => hk h' u
    · have e1 : ((l.length : Int) == 1) = false := by simp; omega
      have h2 : 2 ≤ l.length := by omega
      simp only [lv, e1, zSS, reduceIte]
      refine left_ok h2 hl ?_
      have hlt := leftP_lt h2
      obtain ⟨v1, s1, t1⟩ := S.cutP (lo := none) (hi := some (.int .i64 ((leftP l.length : Nat) : Int))) (a := 0) (m := leftP l.length) (.inl ⟨rfl, rfl⟩) (.inr ⟨_, rfl⟩) (by omega) (by omega)
      obtain ⟨v2, s2, t2⟩ := S.cutP (lo := some (.int .i64 ((leftP l.length : Nat) : Int))) (hi := none) (a := leftP l.length) (m := l.length) (.inr ⟨_, rfl⟩) (.inl ⟨rfl, rfl⟩) (by omega) (by omega)
      rw [List.drop_zero] at t1
      rw [List.take_length] at t2
      simp only [s1, s2, zSS, reduceIte]
      have hd : digP l = bothP (digP (l.take (leftP l.length))) (digP (l.drop (leftP l.length))) := by
        rw [digP, dif_pos h2]
      rw [hd] at hk
      refine digest'_ok n (by simp; omega) (List.ne_nil_of_length_pos (by first | (rw [List.length_take]; omega) | (rw [List.length_drop]; omega))) (by simp; omega) hK t1 (fun p hp => hs p (List.mem_of_mem_take hp)) fun h1 u1 => ?_
      refine digest'_ok n (by simp; omega) (List.ne_nil_of_length_pos (by first | (rw [List.length_take]; omega) | (rw [List.length_drop]; omega))) (by simp; omega) (hK.ext u1) (t2.ext u1) (fun p hp => hs p (List.mem_of_mem_drop hp)) fun h2 u2 => ?_
      refine both_ok (hK.ext (u1.trans u2)) (by rw [digP_len, digP_len]; decide) fun h3 u3 => ?_
      exact hk _ ((u1.trans u2).trans u3)
theorem digest_ok' {h : PH} {v : Value} {l : List Pr} (hne : l ≠ []) (hl : l.length ≤ 65536) (hK : KAt h) (S : SlR h 2 v (l.map Pr.cells)) (hs : MSmall l) {k : Value → PH → Prop} (hk : ∀ h', Ext h h' → k (.string (tx (digP l))) h') : CallsH PG id_merkle_digest #[v] h k :=
  digest'_ok l.length (Nat.le_refl _) hne hl hK S hs hk
theorem cv_u64_int (x : Int) : SemP PG (convert T_uint64 T_int (.int .u64 x)) = some (.int .i64 (IntKind.i64.wrap x)) := by kernel_rfl
theorem and255 {t : TypeId} {m : Nat} (hm : m < 18446744073709551616) : SemP PG (binOp .and t (.int .u64 (m : Int)) (.int .u64 255)) = some (.int .u64 ((m % 256 : Nat) : Int)) := by
  have e : SemP PG (binOp .and t (.int .u64 (m : Int)) (.int .u64 255)) = some (.int .u64 (IntKind.u64.wrap ((BitVec.ofInt 64 (m : Int) &&& BitVec.ofInt 64 255).toNat : Int))) := rfl
  have e2 : (BitVec.ofInt 64 (m : Int) &&& BitVec.ofInt 64 255).toNat = m % 256 := by
    have h1 : BitVec.ofInt 64 (m : Int) = BitVec.ofNat 64 m := BitVec.ofInt_natCast ..
    have h2 : BitVec.ofInt 64 255 = BitVec.ofNat 64 255 := by decide
    rw [h1, h2, BitVec.toNat_and, BitVec.toNat_ofNat, BitVec.toNat_ofNat, Nat.mod_eq_of_lt (show m < 2 ^ 64 from hm)]
    exact Nat.and_two_pow_sub_one_eq_mod m 8
  rw [e, e2, u64_wrap (by omega) (by omega)]
def topP (n : Nat) (d : Tx) : Tx := sha (2 :: (be n 8 ++ d))
theorem Top_ok {h : PH} {n : Nat} {d : Tx} (hK : KAt h) (hn : n ≤ 1000000) (hd : d.length ≤ 1000000) {k : Value → PH → Prop} (hk : ∀ h', Ext h h' → k (.string (tx (topP n d))) h') : CallsH PG id_merkle_Top #[.int .i64 (n : Int), .string (tx d)] h k := by
  apply merkle_Top.call
  unfold merkle_Top
  have e1 : (if (0 : Int) < (n : Int) then (n : Int) else 0) = (n : Int) := by split <;> omega
  have e2 : IntKind.u64.wrap (n : Int) = n := u64_wrap (by omega) (by omega)
  simp only [maxI_eq, e1, cv_int_u64, e2, zSS, reduceIte]
  refine ⟨fun vs h' => ∃ i, i ≤ 8 ∧ vs = [.string (tx d), .int .u64 (n : Int), .string (tx ((be n 8).take i)), .int .i64 (i : Int)] ∧ Ext h h', upTo 8 3, ⟨0, by omega, rfl, Upd.refl⟩, ?_⟩
  rintro ρ h' ⟨i, hi, hvs, u⟩
  simp only [List.map_cons, List.map_nil, List.cons.injEq, and_true] at hvs
  obtain ⟨v1, v5, v6, v11⟩ := hvs
  simp only [v1, v5, v6, v11, List.map_cons, List.map_nil]
  unfold merkle_Top_b4
  by_cases hl : i < 8
  · have f1 : ((i : Int) < 8) = True := eq_true (by omega)
    have f2 : IntKind.i64.wrap (8 * (i : Int)) = 8 * (i : Int) := i64_wrap (by omega) (by omega)
    have f3 : IntKind.i64.wrap (56 - 8 * (i : Int)) = 56 - 8 * (i : Int) := i64_wrap (by omega) (by omega)
    have hle : n / 256 ^ (8 - 1 - i) ≤ n := Nat.div_le_self _ _
    have f4 : IntKind.i64.wrap ((n / 256 ^ (8 - 1 - i) % 256 : Nat) : Int) = ((n / 256 ^ (8 - 1 - i) % 256 : Nat) : Int) := i64_wrap (by omega) (by omega)
    have f5 : IntKind.i64.wrap ((i : Int) + 1) = ((i + 1 : Nat) : Int) := by rw [i64_wrap (by omega) (by omega)]; omega
    simp only [f1, f2, f3, shr64 hl, and255 (show n / 256 ^ (8 - 1 - i) < 18446744073709551616 by omega), cv_u64_int, f4, zSS, reduceIte]
    refine mone_ok fun h2 u2 => ?_
    rw [Nat.mod_mod]
    have f6 : ∀ t, SemP PG (binOp .add t (.string (tx ((be n 8).take i))) (.string (tx [UInt8.ofNat (n / 256 ^ (8 - 1 - i) % 256)]))) = some (.string (tx ((be n 8).take (i + 1)))) := fun t => by
      rw [add_tx (by rw [List.length_take, be_len]; simp; omega), be_take_succ hl]
    simp only [f6, f5, zSS, reduceIte]
    refine ⟨⟨i + 1, by omega, rfl, u.trans u2⟩, ?_⟩
    simp only [upTo, List.getElem?_cons_succ, List.getElem?_cons_zero]
    omega
  · have f1 : ((i : Int) < 8) = False := eq_false (by omega)
    have hi' : i = 8 := by omega
    subst hi'
    rw [List.take_of_length_le (Nat.le_of_eq (be_len _ _))]
    simp only [f1, lit3s, zSS, reduceIte]
    intro b hb
    refine popO_pure ?_
    try rw [bindH_eq]
    have u1 : Ext h' (h'.set b (.cells #[.string ⟨#[2]⟩, .string (tx (be n 8)), .string (tx d)] T_string)) := Upd.new hb
    have s : SlR (h'.set b (.cells #[.string ⟨#[2]⟩, .string (tx (be n 8)), .string (tx d)] T_string)) 1 (.slice (some ⟨b, 0, none⟩) 3 3) ([[2], be n 8, d].map scell) := (OwnR.lit (n := 3) (scell.rows [[2], be n 8, d]) set_same (by simp) (by decide) rfl).slR
    refine Sum_ok (hK.ext (u.trans u1)) s (by simp [be_len]; omega) fun h3 u3 => ?_
    have e : topP n d = sha [[2], be n 8, d].flatten := by simp [topP]
    rw [e] at hk
    exact hk _ ((u.trans u1).trans u3)
def rootP (l : List Pr) : Tx := topP l.length (if l = [] then [] else digP l)
theorem MRoot_ok {h : PH} {v : Value} {l : List Pr} (hl : l.length ≤ 65536) (hK : KAt h) (S : SlR h 2 v (l.map Pr.cells)) (hs : MSmall l) {k : Value → PH → Prop} (hk : ∀ h', Ext h h' → k (.string (tx (rootP l))) h') : CallsH PG id_merkle_Root #[v] h k := by
  apply merkle_Root.call
  unfold merkle_Root
  have lv := S.len (t' := T_int) T_sl_api_Pair.und
  rw [List.length_map] at lv
  by_cases h0 : l = []
  · subst h0
    simp only [lv, List.length_nil, show (((0 : Nat) : Int) == 0) = true from rfl, zSS, reduceIte]
    refine Top_ok (n := 0) (d := []) hK (by decide) (by decide) fun h' u => ?_
    exact hk _ u
  · have e0 : ((l.length : Int) == 0) = false := by simpa using h0
    simp only [lv, e0, zSS, reduceIte]
    refine digest_ok' h0 hl hK S hs fun h1 u1 => ?_
    refine Top_ok (hK.ext u1) (by omega) (by rw [digP_len]; decide) fun h2 u2 => ?_
    have := hk h2 (u1.trans u2)
    unfold rootP at this
    rw [if_neg h0] at this
    exact this
def SFit (p : Pr) : Prop := 1 ≤ p.k.length ∧ p.k.length ≤ 16 ∧ p.v.length ≤ 64
end Go.Proofs.YtcoajnpchhmgjaaGreatDoor
namespace Go.Proofs.YtcoajnpchhmgjaaGreatDoor
open Go
def pathP (l : List Pr) (k : Nat) : List Tx :=
  if h : 2 ≤ l.length then
    if k < leftP l.length then pathP (l.take (leftP l.length)) k ++ [digP (l.drop (leftP l.length))]
    else pathP (l.drop (leftP l.length)) (k - leftP l.length) ++ [digP (l.take (leftP l.length))]
  else []
termination_by l.length
decreasing_by
  · have := leftP_lt h; simp; omega
  · have := leftP_lt h; simp; omega
def upP (p : Pr) (i n : Nat) (path : List Tx) : Option (Tx × List Tx) :=
  if h : 2 ≤ n then
    match path.getLast? with
    | none => none
    | some b => if b.length ≠ 32 then none else
      if i < leftP n then (upP p i (leftP n) path.dropLast).map fun x => (bothP x.1 b, x.2)
      else (upP p (i - leftP n) (n - leftP n) path.dropLast).map fun x => (bothP b x.1, x.2)
  else some (leafP p, path)
termination_by n
decreasing_by
  · have := leftP_lt h; omega
  · have := leftP_lt h; omega
structure Lf where
  i : Int
  n : Int
  p : Pr
  path : List Tx
  deriving DecidableEq
def endP (n : Nat) : Option (Tx × List Tx) → Option Tx
  | some (d, []) => some (topP n d)
  | _ => none
def climbP (f : Lf) : Option Tx :=
  if f.n < 1 ∨ 4096 < f.n ∨ f.i < 0 ∨ f.n ≤ f.i then none else endP f.n.toNat (upP f.p f.i.toNat f.n.toNat f.path)
theorem upP_path : ∀ (n : Nat) (l : List Pr) (k : Nat) (p : Pr) (pre : List Tx), l.length = n → l[k]? = some p → upP p k n (pre ++ pathP l k) = some (digP l, pre) := by
  intro n
  induction n using Nat.strongRecOn with
  | ind n ih =>
    intro l k p pre hn hk
    have hlt : k < l.length := (List.getElem?_eq_some_iff.1 hk).1
    by_cases h2 : 2 ≤ n
    · have h2' : 2 ≤ l.length := by omega
      obtain ⟨m1, m2⟩ := leftP_lt h2
      have hd : digP l = bothP (digP (l.take (leftP n))) (digP (l.drop (leftP n))) := by rw [digP, dif_pos h2', hn]
      rw [upP, dif_pos h2, pathP, dif_pos h2', hn, hd]
      by_cases hkm : k < leftP n
      · rw [if_pos hkm, ← List.append_assoc, List.getLast?_concat, List.dropLast_concat]
        simp only [digP_len, ne_eq, not_true_eq_false, if_false, hkm, if_true]
        rw [ih (leftP n) m2 (l.take (leftP n)) k p pre (by rw [List.length_take]; omega) (by rw [List.getElem?_take, if_pos hkm]; exact hk)]
        rfl
      · rw [if_neg hkm, ← List.append_assoc, List.getLast?_concat, List.dropLast_concat]
        simp only [digP_len, ne_eq, not_true_eq_false, if_false, hkm]
        rw [ih (n - leftP n) (by omega) (l.drop (leftP n)) (k - leftP n) p pre (by rw [List.length_drop]; omega) (by rw [List.getElem?_drop]; rw [← hk]; congr 1; omega)]
        rfl
    · have h1 : l.length = 1 := by omega
      obtain ⟨q, rfl⟩ := List.length_eq_one_iff.1 h1
      have k0 : k = 0 := by simp at hlt; exact hlt
      subst k0
      simp only [List.getElem?_cons_zero, Option.some.injEq] at hk
      subst hk
      rw [upP, dif_neg h2, pathP, dif_neg (by simp), digP, dif_neg (by simp)]
      simp
theorem climb_path {l : List Pr} {k : Nat} {p : Pr} (hk : l[k]? = some p) (hl : l.length ≤ 4096) : climbP ⟨k, l.length, p, pathP l k⟩ = some (rootP l) := by
  have hlt : k < l.length := (List.getElem?_eq_some_iff.1 hk).1
  unfold climbP
  rw [if_neg (by simp only; omega)]
  have := upP_path l.length l k p [] rfl hk
  rw [List.nil_append] at this
  simp only [Int.toNat_natCast, this, endP]
  have hne : l ≠ [] := by intro e; rw [e] at hlt; simp at hlt
  unfold rootP
  simp [hne]
theorem pathP_len : ∀ (n : Nat) (l : List Pr) (k : Nat), l.length = n → ∀ d ∈ pathP l k, d.length = 32 := by
  intro n
  induction n using Nat.strongRecOn with
  | ind n ih =>
    intro l k hn d hd
    by_cases h2 : 2 ≤ l.length
    · obtain ⟨m1, m2⟩ := leftP_lt h2
      rw [pathP, dif_pos h2] at hd
      split at hd
      · rcases List.mem_append.1 hd with hd | hd
        · exact ih (leftP l.length) (by omega) _ k (by rw [List.length_take]; omega) d hd
        · simp only [List.mem_singleton] at hd; rw [hd]; exact digP_len _
      · rcases List.mem_append.1 hd with hd | hd
        · exact ih (l.length - leftP l.length) (by omega) _ _ (by rw [List.length_drop]) d hd
        · simp only [List.mem_singleton] at hd; rw [hd]; exact digP_len _
    · rw [pathP, dif_neg h2] at hd; simp at hd
theorem leftP_half {n : Nat} (h : 2 ≤ n) {d : Nat} (hd : n ≤ 2 ^ (d + 1)) : leftP n ≤ 2 ^ d ∧ n - leftP n ≤ 2 ^ d := by
  unfold leftP
  have hne : n - 1 ≠ 0 := by omega
  have h1 : 2 ^ Nat.log2 (n - 1) ≤ n - 1 := Nat.log2_self_le hne
  have h2 : n - 1 < 2 ^ (Nat.log2 (n - 1) + 1) := Nat.lt_log2_self
  have h3 : Nat.log2 (n - 1) < d + 1 := (Nat.log2_lt hne).2 (by omega)
  have h4 : 2 ^ Nat.log2 (n - 1) ≤ 2 ^ d := Nat.pow_le_pow_right (by decide) (by omega)
  rw [Nat.pow_succ] at h2
  exact ⟨h4, by omega⟩
theorem pathP_deep : ∀ (d : Nat) (l : List Pr) (k : Nat), l.length ≤ 2 ^ d → (pathP l k).length ≤ d
  | 0, l, k, h => by rw [pathP, dif_neg (by simp at h; omega)]; simp
  | d + 1, l, k, h => by
    by_cases h2 : 2 ≤ l.length
    · obtain ⟨a, b⟩ := leftP_half h2 h
      rw [pathP, dif_pos h2]
      split
      · rw [List.length_append]
        have := pathP_deep d (l.take (leftP l.length)) k (by rw [List.length_take]; omega)
        simp; omega
      · rw [List.length_append]
        have := pathP_deep d (l.drop (leftP l.length)) (k - leftP l.length) (by rw [List.length_drop]; omega)
        simp; omega
    · rw [pathP, dif_neg h2]; simp
end Go.Proofs.YtcoajnpchhmgjaaGreatDoor
namespace Go.Proofs.YtcoajnpchhmgjaaGreatDoor
open Go
set_option maxRecDepth 20000
theorem lit1m (a : ByteArray) : SemA PG (Instr.buildSlice T_sl_string 1 #[(0, .string a)]) = some (.cells #[.string a] T_string, fun r => pure (.slice (some ⟨r, 0, none⟩) 1 1)) := by kernel_rfl
theorem scell.isC (s : Tx) : ∀ u ∈ scell s, Go.Proofs.YtcoajnpchhmgjaaGreatDoor.isCell u = true := fun u hu => by
  simp only [scell, List.mem_cons, List.not_mem_nil, or_false] at hu
  subst hu; rfl
def fnP (a b : Nat) : Value := .func (.func id_merkle_Path_1) #[] #[.pointer (some ⟨a, 0, none⟩), .pointer (some ⟨b, 0, none⟩)]
structure PtAt (h0 h : PH) (a b : Nat) (acc : List Tx) (F : List Nat) : Prop where
  fn : Bx h a [fnP a b]
  out : ∃ v, Bx h b [v] ∧ OwnR h T_string 1 v (acc.map scell) F
  ne : a ≠ b
  na : a ∉ F
  nb : b ∉ F
  ext : Ext h0 h
  fr : Fresh h0 (a :: b :: F)
theorem PtAt.upd {h0 h h' : PH} {a b : Nat} {acc : List Tx} {F : List Nat} (H : PtAt h0 h a b acc F) (u : Ext h h') : PtAt h0 h' a b acc F := by
  obtain ⟨v, B, O⟩ := H.out
  exact ⟨H.fn.ext u, ⟨v, B.ext u, O.ext u⟩, H.ne, H.na, H.nb, H.ext.trans u, H.fr⟩
theorem PtAt.push {h0 h : PH} {a b : Nat} {acc : List Tx} {F : List Nat} (H : PtAt h0 h a b acc F) (d : Tx) {t3 : Value} (ht : SemE PG h (Instr.loadAt T_sl_string (.pointer (some ⟨b, 0, none⟩))) = some t3) (hl : acc.length ≤ 1000) {R : Value → PH → Prop} (hR : ∀ h' F', PtAt h0 h' a b (acc ++ [d]) F' → R (.tuple #[]) h') :
    (popO (SemA PG (Instr.buildSlice T_sl_string 1 #[(0, .string (tx d))])) fun x16 => ∀ r15, h r15 = none → popO (SemP PG (x16.2 r15)) fun v17 => bindH (PH.set h r15 x16.1) fun h18 =>
      SemH PG (Builtin.append_ #[T_sl_string, T_sl_string] T_sl_string #[t3, v17]) h18 fun v19 h20 => SemH PG (storeS T_sl_string (.pointer (some ⟨b, 0, none⟩)) v19) h20 fun _ h22 => R (.tuple #[]) h22) := by
  obtain ⟨v, B, O⟩ := H.out
  rw [T_sl_string.load, B.cell] at ht
  obtain rfl : v = t3 := by simpa using ht
  simp only [lit1m, zSS, reduceIte]
  intro r hr
  refine popO_pure ?_
  try rw [bindH_eq]
  have u1 : Ext h (h.set r (.cells #[.string (tx d)] T_string)) := Upd.new hr
  have s1 : SlR (h.set r (.cells #[.string (tx d)] T_string)) 1 (.slice (some ⟨r, 0, none⟩) 1 1) ([d].map scell) := (OwnR.lit (scell.rows [d]) set_same (by simp) (by decide) (by simp [scell])).slR
  generalize h.set r (.cells #[.string (tx d)] T_string) = h1 at *
  have H1 := H.upd u1
  refine append_own T_sl_string.und T_sl_string.und T_string.info T_string.size T_string.bytes T_string.zero rfl (by decide) (O.ext u1) s1 (fun r hr u hu => by
    obtain ⟨s, -, rfl⟩ := List.mem_map.1 hr
    exact scell.isC s u hu) (by simp; omega) ?_
  intro v2 h2 F2 O2 u2 g2 _
  rw [← List.map_append] at O2
  have nb2 : b ∉ F2 := fun hb => by
    rcases g2 b hb with h | h
    · exact H.nb h
    · exact (B.ext u1).known h
  have na2 : a ∉ F2 := fun hb => by
    rcases g2 a hb with h | h
    · exact H.na h
    · exact (H.fn.ext u1).known h
  refine T_sl_string.put ((B.ext u1).upd u2 H.nb) (o := 0) (by show 0 < 1; decide) O2.slR.isc fun h3 B3 u3 => ?_
  refine hR h3 F2 ⟨((H.fn.ext u1).upd u2 H.na).upd u3 (by simpa using H.ne), ⟨v2, B3, O2.upd u3 (fun x hx => by simp only [List.mem_singleton]; rintro rfl; exact nb2 hx)⟩, H.ne, na2, nb2, ?_, ?_⟩
  · have f1 : Fresh h0 F := fun x hx => H.fr x (by simp [hx])
    have f2 : Fresh h0 [b] := fun x hx => H.fr x (by simp at hx; simp [hx])
    exact (H1.ext.fresh u2 f1).fresh u3 f2
  · intro x hx
    rcases List.mem_cons.1 hx with rfl | hx
    · exact H.fr x (by simp)
    · rcases List.mem_cons.1 hx with rfl | hx
      · exact H.fr x (by simp)
      · rcases g2 x hx with h | h
        · exact H.fr x (by simp [h])
        · exact H1.ext.none h
theorem fn_call {f : FuncId} {cap args : Array Value} {h : PH} {k : Value → PH → Prop} : callC PG (.func (.func f) #[] cap) args h k = CallsH PG f (#[] ++ args ++ cap) h k := rfl
theorem down_ok : ∀ (d : Nat) {h0 h : PH} {a b : Nat} {acc : List Tx} {F : List Nat} {v : Value} {l : List Pr} {k : Nat}, l.length ≤ 2 ^ d → d ≤ 16 → k < l.length → l.length ≤ 4096 → acc.length + d ≤ 1000 → KAt h0 → SlR h0 2 v (l.map Pr.cells) → MSmall l → PtAt h0 h a b acc F →
    ∀ {kk : Value → PH → Prop}, (∀ h' F', PtAt h0 h' a b (acc ++ pathP l k) F' → kk (.tuple #[]) h') → CallsH PG id_merkle_Path_1 #[v, .int .i64 (k : Int), .pointer (some ⟨a, 0, none⟩), .pointer (some ⟨b, 0, none⟩)] h kk
  | d, h0, h, a, b, acc, F, v, l, k, hd, hd16, hk, hl, hacc, hK, S, hs, H, kk, hkk => by
    apply merkle_Path_1.call
    unfold merkle_Path_1
    have lv := S.len (t' := T_int) T_sl_api_Pair.und
    rw [List.length_map] at lv
    by_cases h1 : l.length = 1
    · have e1 : ((l.length : Int) == 1) = true := by simp [h1]
      simp only [lv, eqlI, e1, zSS, reduceIte, zZZ, Nat.reduceAdd]
      have ep : pathP l k = [] := by rw [pathP, dif_neg (by omega)]
      rw [ep, List.append_nil] at hkk
      exact hkk h F H
    · have e1 : ((l.length : Int) == 1) = false := by simp; omega
      have h2 : 2 ≤ l.length := by omega
      obtain ⟨d, rfl⟩ : ∃ d', d = d' + 1 := by
        cases d with
        | zero => simp at hd; omega
        | succ d' => exact ⟨d', rfl⟩
      obtain ⟨q1, q2⟩ := leftP_half h2 hd
      have hlt := leftP_lt h2
      have ld : ∀ {h' : PH}, Bx h' a [fnP a b] → SemE PG h' (Instr.loadAt T_func_sl_api_Pair_int (.pointer (some ⟨a, 0, none⟩))) = some (fnP a b) := fun B => by rw [T_func_sl_api_Pair_int.load, B.cell]; rfl
      obtain ⟨v1, s1, t1⟩ := S.cutP (lo := none) (hi := some (.int .i64 ((leftP l.length : Nat) : Int))) (a := 0) (m := leftP l.length) (.inl ⟨rfl, rfl⟩) (.inr ⟨_, rfl⟩) (by omega) (by omega)
      obtain ⟨v2, s2, t2⟩ := S.cutP (lo := some (.int .i64 ((leftP l.length : Nat) : Int))) (hi := none) (a := leftP l.length) (m := l.length) (.inr ⟨_, rfl⟩) (.inl ⟨rfl, rfl⟩) (by omega) (by omega)
      rw [List.drop_zero] at t1
      rw [List.take_length] at t2
      simp only [lv, eqlI, e1, zSS, reduceIte, zZZ, Nat.reduceAdd]
      refine left_ok h2 (by omega) ?_
      have ht1 : MSmall (l.take (leftP l.length)) := fun p hp => hs p (List.mem_of_mem_take hp)
      have ht2 : MSmall (l.drop (leftP l.length)) := fun p hp => hs p (List.mem_of_mem_drop hp)
      by_cases hkm : k < leftP l.length
      · have g : ((k : Int) < ((leftP l.length : Nat) : Int)) = True := eq_true (by omega)
        have ep : pathP l k = pathP (l.take (leftP l.length)) k ++ [digP (l.drop (leftP l.length))] := by rw [pathP, dif_pos h2, if_pos hkm]
        simp only [g, ld H.fn, s1, zSS, reduceIte, zZZ, Nat.reduceAdd]
        unfold fnP
        rw [fn_call]
        refine down_ok d (l := l.take (leftP l.length)) (by rw [List.length_take]; omega) (by omega) (by rw [List.length_take]; omega) (by rw [List.length_take]; omega) (by omega) hK t1 ht1 H fun h3 F3 H3 => ?_
        obtain ⟨w, B3, O3⟩ := H3.out
        have lw : ∀ {h' : PH}, Ext h3 h' → SemE PG h' (Instr.loadAt T_sl_string (.pointer (some ⟨b, 0, none⟩))) = some w := fun u => by rw [T_sl_string.load, (B3.ext u).cell]; rfl
        simp only [lw Upd.refl, s2, zSS, reduceIte, zZZ, Nat.reduceAdd]
        refine digest_ok' (List.ne_nil_of_length_pos (by rw [List.length_drop]; omega)) (by rw [List.length_drop]; omega) (hK.ext H3.ext) (t2.ext H3.ext) ht2 fun h4 u4 => ?_
        refine ⟨lw u4, ?_⟩
        refine (H3.upd u4).push _ (lw u4) (by
          have := pathP_deep d (l.take (leftP l.length)) k (by rw [List.length_take]; omega)
          rw [List.length_append]; omega) (R := kk) fun h5 F5 H5 => ?_
        rw [List.append_assoc, ← ep] at H5
        exact hkk h5 F5 H5
      · have g : ((k : Int) < ((leftP l.length : Nat) : Int)) = False := eq_false (by omega)
        have ep : pathP l k = pathP (l.drop (leftP l.length)) (k - leftP l.length) ++ [digP (l.take (leftP l.length))] := by rw [pathP, dif_pos h2, if_neg hkm]
        have es : IntKind.i64.wrap ((k : Int) - ((leftP l.length : Nat) : Int)) = ((k - leftP l.length : Nat) : Int) := by rw [i64_wrap (by omega) (by omega)]; omega
        simp only [g, ld H.fn, s2, es, zSS, reduceIte, zZZ, Nat.reduceAdd]
        unfold fnP
        rw [fn_call]
        refine down_ok d (l := l.drop (leftP l.length)) (by rw [List.length_drop]; omega) (by omega) (by rw [List.length_drop]; omega) (by rw [List.length_drop]; omega) (by omega) hK t2 ht2 H fun h3 F3 H3 => ?_
        obtain ⟨w, B3, O3⟩ := H3.out
        have lw : ∀ {h' : PH}, Ext h3 h' → SemE PG h' (Instr.loadAt T_sl_string (.pointer (some ⟨b, 0, none⟩))) = some w := fun u => by rw [T_sl_string.load, (B3.ext u).cell]; rfl
        simp only [lw Upd.refl, s1, zSS, reduceIte, zZZ, Nat.reduceAdd]
        refine digest_ok' (List.ne_nil_of_length_pos (by rw [List.length_take]; omega)) (by rw [List.length_take]; omega) (hK.ext H3.ext) (t1.ext H3.ext) ht1 fun h4 u4 => ?_
        refine ⟨lw u4, ?_⟩
        refine (H3.upd u4).push _ (lw u4) (by
          have := pathP_deep d (l.drop (leftP l.length)) (k - leftP l.length) (by rw [List.length_drop]; omega)
          rw [List.length_append]; omega) (R := kk) fun h5 F5 H5 => ?_
        rw [List.append_assoc, ← ep] at H5
        exact hkk h5 F5 H5
termination_by d => d
theorem Path_ok {h : PH} {v : Value} {l : List Pr} {k : Nat} (hk : k < l.length) (hl : l.length ≤ 4096) (hK : KAt h) (S : SlR h 2 v (l.map Pr.cells)) (hs : MSmall l) {kk : Value → PH → Prop} (hkk : ∀ v' h' F, OwnR h' T_string 1 v' ((pathP l k).map scell) F → Fresh h F → Ext h h' → kk v' h') :
    CallsH PG id_merkle_Path #[v, .int .i64 (k : Int)] h kk := by
  apply merkle_Path.call
  unfold merkle_Path
  have lv := S.len (t' := T_int) T_sl_api_Pair.und
  rw [List.length_map] at lv
  have g1 : ((k : Int) < 0) = False := eq_false (by omega)
  have g2 : ((l.length : Int) ≤ (k : Int)) = False := eq_false (by omega)
  simp only [lv, g1, g2, zSS, reduceIte, zZZ, Nat.reduceAdd]
  intro r17 hr17
  try rw [bindH_eq]
  have u1 : Ext h (h.set r17 (.cells (zcells PG T_sl_string) T_sl_string)) := Upd.new hr17
  have B1 := T_sl_string.zbox (h := h) (r := r17)
  generalize h.set r17 (.cells (zcells PG T_sl_string) T_sl_string) = h1 at *
  intro r19 hr19
  try rw [bindH_eq]
  try simp only [makeFunc_eq, zSS, reduceIte, zZZ, Nat.reduceAdd]
  refine T_func_sl_api_Pair_int.fill hr19 rfl fun h2 B2 u2 => ?_
  have ld : SemE PG h2 (Instr.loadAt T_func_sl_api_Pair_int (.pointer (some ⟨r19, 0, none⟩))) = some (fnP r19 r17) := by rw [T_func_sl_api_Pair_int.load, B2.cell]; rfl
  have ne : r19 ≠ r17 := fun e => (B1.apart hr19) e.symm
  have H : PtAt h h2 r19 r17 [] [] := ⟨B2, ⟨_, B1.ext u2, OwnR.nil⟩, ne, by simp, by simp, u1.trans u2, fun x hx => by
    rcases List.mem_cons.1 hx with rfl | hx
    · exact u1.none hr19
    · simp at hx; subst hx; exact hr17⟩
  simp only [ld, zSS, reduceIte, zZZ, Nat.reduceAdd]
  unfold fnP
  rw [fn_call]
  refine down_ok 12 (by omega) (by decide) hk hl (by simp) hK S hs H fun h3 F3 H3 => ?_
  obtain ⟨w, B3, O3⟩ := H3.out
  have lw : SemE PG h3 (Instr.loadAt T_sl_string (.pointer (some ⟨r17, 0, none⟩))) = some w := by rw [T_sl_string.load, B3.cell]; rfl
  simp only [lw, zSS, reduceIte, zZZ, Nat.reduceAdd]
  rw [List.nil_append] at O3
  exact hkk w h3 F3 O3 (fun x hx => H3.fr x (by simp [hx])) H3.ext
end Go.Proofs.YtcoajnpchhmgjaaGreatDoor
namespace Go.Proofs.YtcoajnpchhmgjaaGreatDoor
open Go
set_option maxRecDepth 20000
def Lf.cells (f : Lf) (v : Value) : List Value := [.int .i64 f.i, .int .i64 f.n, .string (tx f.p.k), .string (tx f.p.v), v]
def Lf.val (f : Lf) (v : Value) : Value := .agg (f.cells v).toArray
def fnU (c p o g : Nat) : Value := .func (.func id_merkle_Climb_1) #[] #[.pointer (some ⟨c, 0, none⟩), .pointer (some ⟨p, 0, none⟩), .pointer (some ⟨o, 0, none⟩), .pointer (some ⟨g, 0, none⟩)]
structure UpAt (h0 h : PH) (c p o g : Nat) (f : Lf) (fv : Value) (path : List Tx) (ok : Bool) : Prop where
  leaf : Bx h c (f.cells fv)
  pth : ∃ v, Bx h p [v] ∧ SlR h0 1 v (path.map scell)
  okb : Bx h o [.bool ok]
  fn : Bx h g [fnU c p o g]
  cp : c ≠ p
  co : c ≠ o
  po : p ≠ o
  gp : g ≠ p
  go : g ≠ o
  ext : Ext h0 h
  fp : h0 p = none
  fo : h0 o = none
theorem UpAt.upd {h0 h h' : PH} {c p o g : Nat} {f : Lf} {fv : Value} {path : List Tx} {ok : Bool} (H : UpAt h0 h c p o g f fv path ok) (u : Ext h h') : UpAt h0 h' c p o g f fv path ok := by
  obtain ⟨v, B, S⟩ := H.pth
  exact ⟨H.leaf.ext u, ⟨v, B.ext u, S⟩, H.okb.ext u, H.fn.ext u, H.cp, H.co, H.po, H.gp, H.go, H.ext.trans u, H.fp, H.fo⟩
theorem UpAt.fail {h0 h : PH} {c p o g : Nat} {f : Lf} {fv : Value} {path : List Tx} {ok : Bool} (H : UpAt h0 h c p o g f fv path ok) {R : Value → PH → Prop} (hR : ∀ h', UpAt h0 h' c p o g f fv path false → R undef h') :
    SemH PG (storeS T_bool (.pointer (some ⟨o, 0, none⟩)) (.bool false)) h R := by
  obtain ⟨v, B, S⟩ := H.pth
  refine T_bool.put H.okb (o := 0) (by show 0 < 1; decide) rfl fun h1 B1 u1 => ?_
  exact hR h1 ⟨H.leaf.upd u1 (by simpa using H.co), ⟨v, B.upd u1 (by simpa using H.po), S⟩, B1, H.fn.upd u1 (by simpa using H.go), H.cp, H.co, H.po, H.gp, H.go, H.ext.fresh u1 (Fresh.one H.fo), H.fp, H.fo⟩
theorem UpAt.step {h0 h : PH} {c p o g : Nat} {f : Lf} {fv : Value} {path path' : List Tx} {ok : Bool} (H : UpAt h0 h c p o g f fv path ok) {v' : Value} (S' : SlR h0 1 v' (path'.map scell)) {R : Value → PH → Prop} (hR : ∀ h', UpAt h0 h' c p o g f fv path' ok → R undef h') :
    SemH PG (storeS T_sl_string (.pointer (some ⟨p, 0, none⟩)) v') h R := by
  obtain ⟨v, B, S⟩ := H.pth
  refine T_sl_string.put B (o := 0) (by show 0 < 1; decide) S'.isc fun h1 B1 u1 => ?_
  exact hR h1 ⟨H.leaf.upd u1 (by simpa using H.cp), ⟨v', B1, S'⟩, H.okb.upd u1 (by simpa using H.po.symm), H.fn.upd u1 (by simpa using H.gp), H.cp, H.co, H.po, H.gp, H.go, H.ext.fresh u1 (Fresh.one H.fp), H.fp, H.fo⟩
theorem leafP_len (p : Pr) : (leafP p).length = 32 := rfl
theorem bothP_len (a b : Tx) : (bothP a b).length = 32 := rfl
theorem up_ok : ∀ (d : Nat) {h0 h : PH} {c p o g : Nat} {f : Lf} {fv : Value} {path : List Tx} {ok : Bool} {n i : Nat}, n ≤ 2 ^ d → 1 ≤ n → n ≤ 4096 → i < n → path.length ≤ 1000000 → f.p.k.length + f.p.v.length ≤ 10000000 → KAt h0 → UpAt h0 h c p o g f fv path ok →
    ∀ {kk : Value → PH → Prop}, (∀ dg rest h', upP f.p i n path = some (dg, rest) → dg.length = 32 → rest.length ≤ path.length → UpAt h0 h' c p o g f fv rest ok → kk (.string (tx dg)) h') → (∀ s rest h', upP f.p i n path = none → s.length ≤ 100 → UpAt h0 h' c p o g f fv rest false → kk (.string (tx s)) h') →
    CallsH PG id_merkle_Climb_1 #[.int .i64 (i : Int), .int .i64 (n : Int), .pointer (some ⟨c, 0, none⟩), .pointer (some ⟨p, 0, none⟩), .pointer (some ⟨o, 0, none⟩), .pointer (some ⟨g, 0, none⟩)] h kk
  | d, h0, h, c, p, o, g, f, fv, path, ok, n, i, hd, h1n, hn, hi, hpl, hsm, hK, H, kk, hgood, hbad => by
    apply merkle_Climb_1.call
    unfold merkle_Climb_1
    by_cases h1 : n = 1
    · subst h1
      have e1 : (((1 : Nat) : Int) == 1) = true := rfl
      have lp : SemE PG h (Instr.loadAt T_api_Pair (.pointer (some ⟨c, 2, none⟩))) = some f.p.val := T_api_Pair.agg H.leaf (by show 2 + 2 ≤ 5; decide)
      simp only [eqlI, e1, T_api_Leaf.f2, Nat.zero_add, lp, zSS, reduceIte, zZZ, Nat.reduceAdd]
      refine Leaf_ok (hK.ext H.ext) hsm fun h2 u2 => ?_
      exact hgood _ path h2 (by rw [upP, dif_neg (by decide)]) (leafP_len _) (Nat.le_refl _) (H.upd u2)
    · have h2 : 2 ≤ n := by omega
      have e1 : ((n : Int) == 1) = false := by simp; omega
      obtain ⟨d, rfl⟩ : ∃ d', d = d' + 1 := by
        cases d with
        | zero => simp at hd; omega
        | succ d' => exact ⟨d', rfl⟩
      obtain ⟨q1, q2⟩ := leftP_half h2 hd
      have hlt := leftP_lt h2
      obtain ⟨v, B, S⟩ := H.pth
      have lv := (S.ext H.ext).len (t' := T_int) T_sl_string.und
      rw [List.length_map] at lv
      have lp : SemE PG h (Instr.loadAt T_sl_string (.pointer (some ⟨p, 0, none⟩))) = some v := by rw [T_sl_string.load, B.cell]; rfl
      simp only [eqlI, e1, zSS, reduceIte, zZZ, Nat.reduceAdd]
      refine left_ok h2 (by omega) ?_
      have q0 : ({ data := #[] } : ByteArray) = tx [] := rfl
      rcases List.eq_nil_or_concat path with hnil | ⟨ini, b, hpath⟩
      · subst hnil
        have e2 : (((List.length ([] : List Tx) : Nat) : Int) == 0) = true := rfl
        simp only [lp, lv, eqlI, e2, zSS, reduceIte, zZZ, Nat.reduceAdd]
        refine H.fail fun h3 H3 => ?_
        rw [q0]
        exact hbad [] [] h3 (by rw [upP, dif_pos h2]; rfl) (by simp) H3
      · rw [List.concat_eq_append] at hpath
        subst hpath
        have hlen : (ini ++ [b]).length = ini.length + 1 := by simp
        rw [hlen] at lv hpl
        have e2 : (((ini.length + 1 : Nat) : Int) == 0) = false := by rw [beq_eq_false_iff_ne]; omega
        have es : IntKind.i64.wrap (((ini.length + 1 : Nat) : Int) - 1) = ((ini.length : Nat) : Int) := by rw [i64_wrap (by omega) (by omega)]; omega
        obtain ⟨pa, p1, q1'⟩ := (S.ext H.ext).loadCell T_sl_string.und T_string.info T_string.size T_string.und rfl (k := .i64) (j := (ini.length : Int)) (x := .string (tx b)) (by omega) (by rw [Int.toNat_natCast, List.getElem?_map, List.getElem?_append_right (Nat.le_refl _)]; simp [scell])
        have lb : SemP PG (Builtin.len_ #[T_string] T_int #[.string (tx b)]) = some (.int .i64 (b.length : Int)) := by rw [len_string T_string.und, tx_size]
        by_cases hb : b.length = 32
        case neg =>
          have e3 : ((b.length : Int) != 32) = true := by simp; omega
          simp only [lp, lv, eqlI, neqI, e2, es, p1, q1', lb, e3, zSS, reduceIte, zZZ, Nat.reduceAdd]
          refine H.fail fun h3 H3 => ?_
          rw [q0]
          exact hbad [] _ h3 (by rw [upP, dif_pos h2, List.getLast?_concat]; simp [hb]) (by simp) H3
        have e3 : ((b.length : Int) != 32) = false := by simp; omega
        obtain ⟨v', c1, c2, -⟩ := S.cut T_sl_string.und T_string.info T_string.size (lo := none) (hi := some (.int .i64 (ini.length : Int))) (l := 0) (m := ini.length) (.inl ⟨rfl, rfl⟩) (.inr ⟨_, rfl⟩) (by omega) (by simp)
        have ec : (((ini ++ [b]).map scell).take ini.length).drop 0 = ini.map scell := by
          rw [List.drop_zero, List.map_append, List.take_append_of_le_length (by simp), List.take_of_length_le (by simp)]
        rw [ec] at c2
        simp only [lp, lv, eqlI, neqI, e2, es, p1, q1', lb, e3, c1, zSS, reduceIte, zZZ, Nat.reduceAdd]
        refine H.step c2 fun h3 H3 => ?_
        have ld : SemE PG h3 (Instr.loadAt T_func_int_int_string (.pointer (some ⟨g, 0, none⟩))) = some (fnU c p o g) := by rw [T_func_int_int_string.load, H3.fn.cell]; rfl
        have eu : upP f.p i n (ini ++ [b]) = if i < leftP n then (upP f.p i (leftP n) ini).map fun x => (bothP x.1 b, x.2) else (upP f.p (i - leftP n) (n - leftP n) ini).map fun x => (bothP b x.1, x.2) := by
          rw [upP, dif_pos h2, List.getLast?_concat, List.dropLast_concat]
          simp [hb]
        by_cases hil : i < leftP n
        · have g1 : ((i : Int) < ((leftP n : Nat) : Int)) = True := eq_true (by omega)
          rw [if_pos hil] at eu
          simp only [g1, ld, zSS, reduceIte, zZZ, Nat.reduceAdd]
          unfold fnU
          rw [fn_call]
          refine up_ok d (n := leftP n) (i := i) q1 hlt.1 (by omega) hil (by omega) hsm hK H3 (fun dg rest h4 e4 l4 r4 H4 => ?_) (fun s rest h4 e4 l4 H4 => ?_)
          · refine both_ok (hK.ext H4.ext) (by omega) fun h5 u5 => ?_
            exact hgood _ rest h5 (by rw [eu, e4]; rfl) (bothP_len _ _) (by rw [hlen]; omega) (H4.upd u5)
          · refine both_ok (hK.ext H4.ext) (by omega) fun h5 u5 => ?_
            exact hbad _ rest h5 (by rw [eu, e4]; rfl) (by rw [bothP_len]; decide) (H4.upd u5)
        · have g1 : ((i : Int) < ((leftP n : Nat) : Int)) = False := eq_false (by omega)
          rw [if_neg hil] at eu
          have w1 : IntKind.i64.wrap ((i : Int) - ((leftP n : Nat) : Int)) = ((i - leftP n : Nat) : Int) := by rw [i64_wrap (by omega) (by omega)]; omega
          have w2 : IntKind.i64.wrap ((n : Int) - ((leftP n : Nat) : Int)) = ((n - leftP n : Nat) : Int) := by rw [i64_wrap (by omega) (by omega)]; omega
          simp only [g1, ld, w1, w2, zSS, reduceIte, zZZ, Nat.reduceAdd]
          unfold fnU
          rw [fn_call]
          refine up_ok d (n := n - leftP n) (i := i - leftP n) q2 (by omega) (by omega) (by omega) (by omega) hsm hK H3 (fun dg rest h4 e4 l4 r4 H4 => ?_) (fun s rest h4 e4 l4 H4 => ?_)
          · refine both_ok (hK.ext H4.ext) (by omega) fun h5 u5 => ?_
            exact hgood _ rest h5 (by rw [eu, e4]; rfl) (bothP_len _ _) (by rw [hlen]; omega) (H4.upd u5)
          · refine both_ok (hK.ext H4.ext) (by omega) fun h5 u5 => ?_
            exact hbad _ rest h5 (by rw [eu, e4]; rfl) (by rw [bothP_len]; decide) (H4.upd u5)
termination_by d => d
theorem Climb_ok {h : PH} {f : Lf} {fv : Value} (S : SlR h 1 fv (f.path.map scell)) (hpl : f.path.length ≤ 1000000) (hsm : f.p.k.length + f.p.v.length ≤ 10000000) (hK : KAt h) {kk : Value → PH → Prop}
    (hgood : ∀ t h', climbP f = some t → t.length = 32 → Ext h h' → kk (.tuple #[.string (tx t), .bool true]) h') (hbad : climbP f = none → ∀ h', Ext h h' → kk (.tuple #[.string (tx []), .bool false]) h') :
    CallsH PG id_merkle_Climb #[f.val fv] h kk := by
  apply merkle_Climb.call
  unfold merkle_Climb
  intro r1 hr1
  try rw [bindH_eq]
  have u1 : Ext h (h.set r1 (.cells (Value.cells (f.val fv)) T_api_Leaf)) := Upd.new hr1
  have B1 : Bx (h.set r1 (.cells (Value.cells (f.val fv)) T_api_Leaf)) r1 (f.cells fv) := Bx.new
  generalize h.set r1 (.cells (Value.cells (f.val fv)) T_api_Leaf) = h1 at *
  have li : ∀ {h' : PH}, Bx h' r1 (f.cells fv) → SemE PG h' (Instr.loadAt T_int (.pointer (some ⟨r1, 0, none⟩))) = some (.int .i64 f.i) := fun B => by rw [T_int.load, B.cell]; rfl
  have ln : ∀ {h' : PH}, Bx h' r1 (f.cells fv) → SemE PG h' (Instr.loadAt T_int (.pointer (some ⟨r1, 1, none⟩))) = some (.int .i64 f.n) := fun B => by rw [T_int.load, B.cell]; rfl
  have lp : SemE PG h1 (Instr.loadAt T_sl_string (.pointer (some ⟨r1, 4, none⟩))) = some fv := by rw [T_sl_string.load, B1.cell]; rfl
  have q0 : ({ data := #[] } : ByteArray) = tx [] := rfl
  by_cases a1 : f.n < 1
  · have g1 := eq_true a1
    simp only [T_api_Leaf.f1, Nat.zero_add, ln B1, g1, q0, zSS, reduceIte, zZZ, Nat.reduceAdd]
    exact hbad (by unfold climbP; rw [if_pos (.inl a1)]) _ u1
  have g1 := eq_false a1
  by_cases a2 : 4096 < f.n
  · have g2 := eq_true a2
    simp only [T_api_Leaf.f1, Nat.zero_add, ln B1, g1, g2, q0, zSS, reduceIte, zZZ, Nat.reduceAdd]
    exact hbad (by unfold climbP; rw [if_pos (.inr (.inl a2))]) _ u1
  have g2 := eq_false a2
  by_cases a3 : f.i < 0
  · have g3 := eq_true a3
    simp only [T_api_Leaf.f1, T_api_Leaf.f0, Nat.zero_add, ln B1, li B1, g1, g2, g3, q0, zSS, reduceIte, zZZ, Nat.reduceAdd]
    exact hbad (by unfold climbP; rw [if_pos (.inr (.inr (.inl a3)))]) _ u1
  have g3 := eq_false a3
  by_cases a4 : f.n ≤ f.i
  · have g4 := eq_true a4
    simp only [T_api_Leaf.f1, T_api_Leaf.f0, Nat.zero_add, ln B1, li B1, g1, g2, g3, g4, q0, zSS, reduceIte, zZZ, Nat.reduceAdd]
    exact hbad (by unfold climbP; rw [if_pos (.inr (.inr (.inr a4)))]) _ u1
  have g4 := eq_false a4
  have hc : climbP f = endP f.n.toNat (upP f.p f.i.toNat f.n.toNat f.path) := by
    unfold climbP
    rw [if_neg (by omega)]
  simp only [T_api_Leaf.f1, T_api_Leaf.f0, T_api_Leaf.f3, Nat.zero_add, ln B1, li B1, lp, g1, g2, g3, g4, zSS, reduceIte, zZZ, Nat.reduceAdd]
  intro r55 hr55
  try rw [bindH_eq]
  have u2 : Ext h1 (h1.set r55 (.cells (zcells PG T_sl_string) T_sl_string)) := Upd.new hr55
  have B2 := T_sl_string.zbox (h := h1) (r := r55)
  have C1 := B1.ext u2
  generalize h1.set r55 (.cells (zcells PG T_sl_string) T_sl_string) = h2 at *
  intro r57 hr57
  try rw [bindH_eq]
  have u3 : Ext h2 (h2.set r57 (.cells (zcells PG T_bool) T_bool)) := Upd.new hr57
  have B3 := T_bool.zbox (h := h2) (r := r57)
  have D1 := C1.ext u3
  have D2 := B2.ext u3
  have n57 : r55 ≠ r57 := B2.apart hr57
  have n57' : r1 ≠ r57 := C1.apart hr57
  have n55' : r1 ≠ r55 := B1.apart hr55
  generalize h2.set r57 (.cells (zcells PG T_bool) T_bool) = h3 at *
  refine T_sl_string.put D2 (o := 0) (by decide) S.isc fun h4 B4 u4 => ?_
  have E1 := D1.upd u4 (by simpa using n55')
  have E3 := B3.upd u4 (by simpa using n57.symm)
  refine T_bool.put E3 (o := 0) (by decide) rfl fun h5 B5 u5 => ?_
  have G1 := E1.upd u5 (by simpa using n57')
  have G4 := B4.upd u5 (by simpa using n57)
  intro r63 hr63
  try rw [bindH_eq]
  try simp only [makeFunc_eq, zSS, reduceIte, zZZ, Nat.reduceAdd]
  refine T_func_int_int_string.fill hr63 rfl fun h6 B6 u6 => ?_
  have k55 : h r55 = none := u1.none hr55
  have k57 : h r57 = none := (u1.trans u2).none hr57
  have ex6 : Ext h h6 := (((((u1.trans u2).trans u3).fresh u4 (Fresh.one k55)).fresh u5 (Fresh.one k57))).trans u6
  have n63p : r63 ≠ r55 := (G4.apart hr63).symm
  have n63o : r63 ≠ r57 := (B5.apart hr63).symm
  have H : UpAt h h6 r1 r55 r57 r63 f fv f.path true := ⟨G1.ext u6, ⟨fv, G4.ext u6, S⟩, B5.ext u6, B6, n55', n57', n57, n63p, n63o, ex6, k55, k57⟩
  have ld : SemE PG h6 (Instr.loadAt T_func_int_int_string (.pointer (some ⟨r63, 0, none⟩))) = some (fnU r1 r55 r57 r63) := by rw [T_func_int_int_string.load, B6.cell]; rfl
  have lo : ∀ {h' : PH} {path ok}, UpAt h h' r1 r55 r57 r63 f fv path ok → SemE PG h' (Instr.loadAt T_bool (.pointer (some ⟨r57, 0, none⟩))) = some (.bool ok) := fun H => by rw [T_bool.load, H.okb.cell]; rfl
  obtain ⟨i, hi⟩ := Int.eq_ofNat_of_zero_le (Int.not_lt.1 a3)
  obtain ⟨n, hn⟩ := Int.eq_ofNat_of_zero_le (show 0 ≤ f.n by omega)
  rw [hi, hn, Int.toNat_natCast, Int.toNat_natCast] at hc
  simp only [ld, T_api_Leaf.f0, T_api_Leaf.f1, Nat.zero_add, li H.leaf, ln H.leaf, hi, hn, zSS, reduceIte, zZZ, Nat.reduceAdd]
  unfold fnU
  rw [fn_call]
  refine up_ok 12 (by omega) (by omega) (by omega) (by omega) hpl hsm hK H (fun dg rest h7 e7 l7 r7 H7 => ?_) (fun s rest h7 e7 l7 H7 => ?_)
  · obtain ⟨v7, B7, S7⟩ := H7.pth
    have l55 : SemE PG h7 (Instr.loadAt T_sl_string (.pointer (some ⟨r55, 0, none⟩))) = some v7 := by rw [T_sl_string.load, B7.cell]; rfl
    have lv := S7.len (t' := T_int) T_sl_string.und
    rw [List.length_map] at lv
    cases rest with
    | nil =>
      have hg : ((0 : Int) < ((([] : List Tx).length : Nat) : Int)) = False := eq_false (by simp)
      simp only [lo H7, l55, lv, hg, T_api_Leaf.f1, Nat.zero_add, ln H7.leaf, hn, zSS, reduceIte, zZZ, Nat.reduceAdd]
      refine Top_ok (hK.ext H7.ext) (by omega) (by omega) fun h8 u8 => ?_
      exact hgood _ h8 (by rw [hc, e7]; rfl) rfl (H7.ext.trans u8)
    | cons x rest =>
      have hg : ((0 : Int) < (((x :: rest).length : Nat) : Int)) = True := eq_true (by rw [List.length_cons]; omega)
      simp only [lo H7, l55, lv, hg, q0, zSS, reduceIte, zZZ, Nat.reduceAdd]
      exact hbad (by rw [hc, e7]; rfl) _ H7.ext
  · simp only [lo H7, q0, zSS, reduceIte, zZZ, Nat.reduceAdd]
    exact hbad (by rw [hc, e7]; rfl) _ H7.ext
end Go.Proofs.YtcoajnpchhmgjaaGreatDoor
namespace Go.Proofs.YtcoajnpchhmgjaaGreatDoor
open Go
structure It where
  p : Pk
  g : Int
  deriving DecidableEq
instance : Inhabited It := ⟨⟨default, 0⟩⟩
def It.cells (i : It) : List Value := [.int .i64 i.p.f, .int .u64 i.p.s, .int .u64 i.p.t, .string i.p.d, .int .i64 i.g]
structure Ac where
  dr : Bool
  n : Nt
  deriving DecidableEq
def Ac.cells (a : Ac) : List Value := [.bool a.dr, .int .i64 a.n.k, .int .i64 a.n.p.f, .int .u64 a.n.p.s, .int .u64 a.n.p.t, .string a.n.p.d]
abbrev Ky := Int × Int
def Pk.key (p : Pk) : Ky := (p.f, p.s)
def It.key (i : It) : Ky := i.p.key
def It.val (i : It) : Value := .agg i.cells.toArray
theorem It.rows (l : List It) : Rows 5 (l.map It.cells) := fun r hr => by obtain ⟨m, _, rfl⟩ := List.mem_map.1 hr; rfl
theorem Ac.rows (l : List Ac) : Rows 6 (l.map Ac.cells) := fun r hr => by obtain ⟨m, _, rfl⟩ := List.mem_map.1 hr; rfl
def icell (x : Int) : List Value := [.int .i64 x]
theorem icell.rows (l : List Int) : Rows 1 (l.map icell) := fun r hr => by obtain ⟨m, _, rfl⟩ := List.mem_map.1 hr; rfl
end Go.Proofs.YtcoajnpchhmgjaaGreatDoor
namespace Go.Proofs.YtcoajnpchhmgjaaGreatDoor
open Go
set_option maxRecDepth 20000
def skey (k : Tx) : Value := .string (tx k)
theorem eqStr {h : PH} {n : Nat} (a b : Tx) : SemE PG h (Op.equalIn (n + 1) T_string (.string (tx a)) (.string (tx b))) = some (decide (a = b)) := by
  rw [eqIn_string T_string.und, beq_bytes]
  congr 1
  rw [Bool.eq_iff_iff]
  simp only [decide_eq_true_eq]
  exact ⟨tx_inj, fun e => by rw [e]⟩
theorem neqStr {h : PH} {t : TypeId} {x y : Operand} (a b : Tx) : SemE PG h (binS .neq t x y (.string (tx a)) (.string (tx b))) = some (.bool (!decide (a = b))) := by
  have e : SemE PG h (binS .neq t x y (.string (tx a)) (.string (tx b))) = some (.bool (!((tx a).toList == (tx b).toList))) := rfl
  rw [e, tx_toList, tx_toList]
  congr 3
  rw [Bool.eq_iff_iff]; simp
theorem eqlStr {h : PH} {t : TypeId} {x y : Operand} (a b : Tx) : SemE PG h (binS .eql t x y (.string (tx a)) (.string (tx b))) = some (.bool (decide (a = b))) := by
  have e : SemE PG h (binS .eql t x y (.string (tx a)) (.string (tx b))) = some (.bool ((tx a).toList == (tx b).toList)) := rfl
  rw [e, tx_toList, tx_toList]
  congr 2
  rw [Bool.eq_iff_iff]; simp
theorem skeyed : Keyed PG T_string skey where
  chk := fun h b a => by unfold skey; cases b <;> kernel_rfl
  eq := fun h a b => eqStr (n := 9999) a b
  bits := fun a => by
    show Instr.sameBits (9999 + 1) (.string (tx a)) (.string (tx a)) = true
    simp [Instr.sameBits, beq_bytes]
  now := ⟨_, T_string.und, .inr fun a b => by
    unfold skey
    show some (tx a == tx b) = _
    rw [beq_bytes]
    congr 1
    rw [Bool.eq_iff_iff]
    simp only [decide_eq_true_eq]
    exact ⟨tx_inj, fun e => by rw [e]⟩⟩
theorem inB_own {h : PH} {e : TypeId} {n : Nat} {v : Value} {rows : List (List Value)} {F : List Nat} (O : OwnR h e n v rows F) : inBlocks v F := fun y m c e1 => by
  rcases O.here with ⟨e2, _, _⟩ | ⟨b, cap', cs, e2, e3, _⟩
  · rw [e2] at e1; cases e1
  · rw [e2] at e1
    simp only [Value.slice.injEq, Option.some.injEq] at e1
    rw [← e1.1, e3]; simp
end Go.Proofs.YtcoajnpchhmgjaaGreatDoor
namespace Go.Proofs.YtcoajnpchhmgjaaGreatDoor
open Go
structure Msg where
  kind : Int
  dest : Int
  height : Int
  pfrom : Int
  pseq : Int
  ptimeout : Int
  pdata : ByteArray
  proof : ByteArray
  deriving DecidableEq
def Msg.cells (m : Msg) : List Value := [.int .i64 m.kind, .int .i64 m.dest, .int .u64 m.height, .int .i64 m.pfrom, .int .u64 m.pseq, .int .u64 m.ptimeout, .string m.pdata, .string m.proof]
theorem Msg.rows (l : List Msg) : Rows 8 (l.map Msg.cells) := fun r hr => by
  obtain ⟨m, _, rfl⟩ := List.mem_map.1 hr; rfl
theorem Msg.isCell (l : List Msg) : ∀ r ∈ l.map Msg.cells, ∀ u ∈ r, isCell u = true := fun r hr u hu => by
  obtain ⟨m, _, rfl⟩ := List.mem_map.1 hr
  simp only [Msg.cells, List.mem_cons, List.not_mem_nil, or_false] at hu
  rcases hu with rfl | rfl | rfl | rfl | rfl | rfl | rfl | rfl <;> rfl
def Msg.zero : Msg := ⟨0, 0, 0, 0, 0, 0, ⟨#[]⟩, ⟨#[]⟩⟩
theorem Upd.box {F : List Nat} {h h1 : PH} {r : Nat} {o o' : Obj} (hr : h r = none) (e : h1 = (h.set r o).set r o') : Upd F h h1 := by
  subst e; rw [set_set_same]; exact Upd.new hr
def mv (l : List Msg) (k to : Nat) (m : Msg) : List Msg :=
  if k < to then l.take k ++ (l.drop (k + 1)).take (to - k) ++ [m] ++ l.drop (to + 1) else l.take to ++ [m] ++ (l.drop to).take (k - to) ++ l.drop (k + 1)
end Go.Proofs.YtcoajnpchhmgjaaGreatDoor
namespace Go.Proofs.YtcoajnpchhmgjaaGreatDoor
open Go
def Msg.one (n : Int) : Msg := { Msg.zero with kind := 1, height := n }
end Go.Proofs.YtcoajnpchhmgjaaGreatDoor
namespace Go.Proofs.YtcoajnpchhmgjaaGreatDoor
open Go
set_option maxRecDepth 20000
theorem conv_int_uint (x : Int) : SemP PG (convert T_int T_uint (.int .i64 x)) = some (.int .u64 (IntKind.u64.wrap x)) := by kernel_rfl
theorem conv_uint_int (x : Int) : SemP PG (convert T_uint T_int (.int .u64 x)) = some (.int .i64 (IntKind.i64.wrap x)) := by kernel_rfl
theorem Search_ok {h : PH} {n : Nat} {fid : FuncId} {cap : Array Value} {f : Nat → Bool} (hn : n ≤ 1000000000) (hm : ∀ i j, i ≤ j → j < n → f i = true → f j = true)
    (hf : ∀ i, i < n → ∀ k', k' (.bool (f i)) h → CallsH PG fid (#[] ++ #[.int .i64 i] ++ cap) h k') {k : Value → PH → Prop}
    (hk : ∀ m, m ≤ n → (∀ i, i < m → f i = false) → (∀ i, m ≤ i → i < n → f i = true) → k (.int .i64 m) h) :
    CallsH PG id_sort_Search #[.int .i64 n, .func (.func fid) #[] cap] h k := by
  apply sort_Search.call
  unfold sort_Search
  refine ⟨fun vs h' => ∃ i j : Nat, i ≤ j ∧ j ≤ n ∧ vs = [.func (.func fid) #[] cap, .int .i64 i, .int .i64 j] ∧ h' = h ∧ (∀ x, x < i → f x = false) ∧ (∀ x, j ≤ x → x < n → f x = true), fun vs _ => match vs with | [_, .int _ i, .int _ j] => (j - i).toNat | _ => 0, ⟨0, n, by omega, by omega, rfl, rfl, by omega, by omega⟩, ?_⟩
  rintro ρ h' ⟨i, j, hij, hj, hvs, rfl, h1, h2⟩
  simp only [List.map_cons, List.map_nil, List.cons.injEq, and_true] at hvs
  obtain ⟨e0, e1, e2⟩ := hvs
  rw [e0, e1, e2]
  unfold sort_Search_b2
  by_cases hc : i < j
  · have hd : ((i : Int) < (j : Int)) = True := by simp only [eq_iff_iff, iff_true]; omega
    have a1 : IntKind.i64.wrap ((i : Int) + (j : Int)) = ((i + j : Nat) : Int) := by rw [i64_wrap (by omega) (by omega)]; omega
    have a2 : IntKind.u64.wrap ((i + j : Nat) : Int) = ((i + j : Nat) : Int) := by
      unfold IntKind.wrap
      simp [IntKind.signed, IntKind.bits]
      omega
    have a3 : ((i + j : Nat) : Int).fdiv (2 ^ (min (1 : Int).toNat IntKind.u64.bits)) = (((i + j) / 2 : Nat) : Int) := by
      have : min (1 : Int).toNat IntKind.u64.bits = 1 := by decide
      rw [this, Int.fdiv_eq_ediv_of_nonneg _ (by decide)]
      omega
    have a4 : IntKind.i64.wrap (((i + j) / 2 : Nat) : Int) = (((i + j) / 2 : Nat) : Int) := by rw [i64_wrap (by omega) (by omega)]
    have a5 : IntKind.i64.wrap ((((i + j) / 2 : Nat) : Int) + 1) = (((i + j) / 2 + 1 : Nat) : Int) := by rw [i64_wrap (by omega) (by omega)]; omega
    simp only [hd, a1, conv_int_uint, a2, shr_eq (show (0 : Int) ≤ 1 by decide), a3, conv_uint_int, a4, zSS, reduceIte]
    refine hf ((i + j) / 2) (by omega) _ ?_
    cases e : f ((i + j) / 2) with
    | false =>
      simp only [a5, zSS, reduceIte]
      refine ⟨⟨(i + j) / 2 + 1, j, by omega, hj, rfl, rfl, fun x hx => ?_, h2⟩, by simp [e1, e2]; omega⟩
      cases e' : f x with
      | false => rfl
      | true => rw [hm x ((i + j) / 2) (by omega) (by omega) e'] at e; cases e
    | true =>
      simp only [zSS, reduceIte]
      exact ⟨⟨i, (i + j) / 2, by omega, by omega, rfl, rfl, h1, fun x hx hx2 => hm _ _ hx hx2 e⟩, by simp [e1, e2]; omega⟩
  · have hd : ((i : Int) < (j : Int)) = False := by apply eq_false; omega
    simp only [hd, zSS, reduceIte]
    have : i = j := by omega
    subst this
    exact hk i hj h1 h2
structure Known where
  height : Int
  root : ByteArray
  deriving DecidableEq
def Known.cells (m : Known) : List Value := [.int .u64 m.height, .string m.root]
theorem Known.rows (l : List Known) : Rows 2 (l.map Known.cells) := fun r hr => by
  obtain ⟨m, _, rfl⟩ := List.mem_map.1 hr; rfl
theorem Known.isCell (l : List Known) : ∀ r ∈ l.map Known.cells, ∀ u ∈ r, isCell u = true := fun r hr u hu => by
  obtain ⟨m, _, rfl⟩ := List.mem_map.1 hr
  simp only [Known.cells, List.mem_cons, List.not_mem_nil, or_false] at hu
  rcases hu with rfl | rfl <;> rfl
def ucell (x : Int) : List Value := [.int .u64 x]
theorem ucell.rows (l : List Int) : Rows 1 (l.map ucell) := fun r hr => by
  obtain ⟨m, _, rfl⟩ := List.mem_map.1 hr; rfl
theorem ucell.isCell (l : List Int) : ∀ r ∈ l.map ucell, ∀ u ∈ r, isCell u = true := fun r hr u hu => by
  obtain ⟨m, _, rfl⟩ := List.mem_map.1 hr
  simp only [ucell, List.mem_cons, List.not_mem_nil, or_false] at hu
  subst hu; rfl
def hts (l : List Known) : List Int := l.map Known.height
def latS (hs : List Int) : Int := hs.getLast?.getD 0
def rootL (l : List Known) (x : Int) : Option ByteArray := (l.find? fun p => decide (x = p.height)).map Known.root
def setK (l : List Known) (x : Known) : Int × List Known := if x.root.size ≠ 32 then (1, l) else if x.height ∈ hts l then (4, l) else if 4096 ≤ l.length then (2, l) else (0, l ++ [x])
structure Ranked (hs : List Int) (l : List Known) : Prop where
  perm : hs.Perm (hts l)
  up : hs.Pairwise (· < ·)
theorem Ranked.mem {hs : List Int} {l : List Known} (H : Ranked hs l) {x : Int} : x ∈ hs ↔ x ∈ hts l := H.perm.mem_iff
theorem Ranked.len {hs : List Int} {l : List Known} (H : Ranked hs l) : hs.length = l.length := by rw [H.perm.length_eq]; simp [hts]
theorem rootL_some (l : List Known) (x : Int) : (rootL l x).isSome = decide (x ∈ hts l) := by
  unfold rootL hts
  induction l with
  | nil => rfl
  | cons p ps ih =>
    simp only [List.find?_cons, List.map_cons, List.mem_cons]
    by_cases e : x = p.height
    · simp [e]
    · simp only [e, decide_false, false_or]; exact ih
def Known.ent (p : Known) : Int × Value := (p.height, .string p.root)
theorem getM_ent (l : List Known) (x : Int) : getM (l.map Known.ent) x = (rootL l x).map Value.string := by
  unfold rootL getM
  induction l with
  | nil => rfl
  | cons p ps ih =>
    simp only [List.find?_cons, List.map_cons, Known.ent]
    by_cases e : x = p.height
    · simp [e]
    · simp only [e, decide_false]; exact ih
theorem keys_ent (l : List Known) : keysM (l.map Known.ent) = hts l := by simp [keysM, hts, Known.ent]
theorem Ranked.cut {hs : List Int} {l : List Known} (H : Ranked hs l) {x : Known} (hx : x.height ∉ hts l) {m : Nat} (h1 : ∀ y ∈ hs.take m, y < x.height) (h2 : ∀ y ∈ hs.drop m, x.height ≤ y) : Ranked (hs.take m ++ [x.height] ++ hs.drop m) (l ++ [x]) where
  perm := by
    have : hts (l ++ [x]) = hts l ++ [x.height] := by simp [hts]
    rw [this]
    refine ((List.perm_append_comm (l₁ := hs.take m) (l₂ := [x.height])).append_right _).trans ?_
    rw [List.append_assoc, List.take_append_drop]
    exact List.perm_append_comm.trans (H.perm.append_right _)
  up := by
    have hs' := H.up
    rw [← List.take_append_drop m hs, List.pairwise_append] at hs'
    have h2' : ∀ y ∈ hs.drop m, x.height < y := fun y hy => by
      have h3 := h2 y hy
      have : y ≠ x.height := by rintro rfl; exact hx (H.mem.1 (List.mem_of_mem_drop hy))
      omega
    rw [List.append_assoc, List.pairwise_append]
    refine ⟨hs'.1, ?_, ?_⟩
    · rw [List.singleton_append, List.pairwise_cons]
      exact ⟨h2', hs'.2.1⟩
    · intro a ha b hb
      rcases List.mem_cons.1 (by simpa using hb) with rfl | hb
      · exact h1 a ha
      · exact hs'.2.2 a ha b hb
structure ClientAt (h : PH) (a : Nat) (l : List Known) (hs : List Int) (F : List Nat) : Prop where
  here : ∃ r v G, h a = some (.cells #[.map (some r), v] T_client_Client (0, 0)) ∧ MapAt ukey h r (l.map Known.ent) ∧ OwnR h T_uint64 1 v (hs.map ucell) G ∧ F = a :: r :: G ∧ a ≠ r ∧ a ∉ G ∧ r ∉ G
  rank : Ranked hs l
  few : l.length ≤ 4096
theorem ClientAt.known {h : PH} {a : Nat} {l : List Known} {hs : List Int} {F : List Nat} (H : ClientAt h a l hs F) : ∀ b ∈ F, h b ≠ none := by
  obtain ⟨r, v, G, ha, hM, hO, rfl, -⟩ := H.here
  intro b hb
  simp only [List.mem_cons] at hb
  rcases hb with rfl | rfl | hb
  · rw [ha]; simp
  · exact hM.known
  · exact hO.known b hb
theorem ClientAt.upd {h h' : PH} {a : Nat} {l : List Known} {hs : List Int} {F G : List Nat} (H : ClientAt h a l hs F) (u : Upd G h h') (hd : ∀ b ∈ F, b ∉ G) : ClientAt h' a l hs F := by
  obtain ⟨r, v, G', ha, hM, hO, rfl, hn⟩ := H.here
  exact ⟨⟨r, v, G', u.get ha (hd a (by simp)), hM.upd u (hd r (by simp)), hO.upd u (fun b hb => hd b (by simp [hb])), rfl, hn⟩, H.rank, H.few⟩
theorem ClientAt.ext {h h' : PH} {a : Nat} {l : List Known} {hs : List Int} {F : List Nat} (H : ClientAt h a l hs F) (u : Ext h h') : ClientAt h' a l hs F := H.upd u (by simp)
theorem CNew_ok {h : PH} {k : Value → PH → Prop} (hk : ∀ a h' F, ClientAt h' a [] [] F → Ext h h' → Fresh h F → k (.pointer (some ⟨a, 0, none⟩)) h') : CallsH PG id_client_New #[] h k := by
  apply client_New.call
  unfold client_New
  simp only [makeMap_eq, zSS, reduceIte]
  intro r hr
  refine popO_pure ?_
  have e1 : SemP PG (Instr.build T_client_Client #[(0, Value.map (some r))]) = some (.agg #[.map (some r), .slice none 0 0]) := by kernel_rfl
  simp only [e1, zSS, reduceIte]
  intro a ha
  have hne : a ≠ r := by rintro rfl; rw [set_same] at ha; cases ha
  have ha0 : h a = none := by rwa [set_other hne] at ha
  refine hk a _ [a, r] ⟨⟨r, .slice none 0 0, [], set_same, MapAt.new.ext (Upd.new ha), OwnR.nil, rfl, hne, by simp, by simp⟩, ⟨by simp [hts], by simp⟩, by simp⟩ ((Upd.new hr).trans (Upd.new ha)) ?_
  intro b hb
  simp only [List.mem_cons, List.not_mem_nil, or_false] at hb
  rcases hb with rfl | rfl
  · exact ha0
  · exact hr
theorem SlR.u64 {h : PH} {x : Value} {xs : List Int} (H : SlR h 1 x (xs.map ucell)) {k : IntKind} {j : Nat} {m : Int} (hm : xs[j]? = some m) :
    ∃ a, SemP PG (Instr.indexAt T_sl_uint64 x (.int k j)) = some (.pointer (some a)) ∧ SemE PG h (Instr.loadAt T_uint64 (.pointer (some a))) = some (.int .u64 m) :=
  H.loadCell T_sl_uint64.und T_uint64.info T_uint64.size T_uint64.und rfl (by omega) (by simp [List.getElem?_map, hm, ucell])
theorem place_at {h : PH} {a : Nat} {mv v : Value} {hs : List Int} {G : List Nat} (ha0 : h a = some (.cells #[mv, v] T_client_Client (0, 0))) (hO0 : OwnR h T_uint64 1 v (hs.map ucell) G) (hup : hs.Pairwise (· < ·)) (hfew : hs.length ≤ 4096) (x : Int) {k : Value → PH → Prop}
    (hk : ∀ m h', m ≤ hs.length → (∀ y ∈ hs.take m, y < x) → (∀ y ∈ hs.drop m, x ≤ y) → Ext h h' → k (.int .i64 (m : Nat)) h') : CallsH PG id_client_Client_place #[.pointer (some ⟨a, 0, none⟩), .int .u64 x] h k := by
  apply client_Client_place.call
  unfold client_Client_place
  intro r1 hr1
  simp only [zSS, reduceIte]
  intro r3 hr3
  have u1 : Ext h (h.set r1 (.cells (Value.cells (.pointer (some ⟨a, 0, none⟩))) T_p_client_Client)) := Upd.new hr1
  have hne : r1 ≠ r3 := ne_new set_same hr3
  have e1 : (h.set r1 (.cells (Value.cells (.pointer (some ⟨a, 0, none⟩))) T_p_client_Client)) r1 = some (.cells #[.pointer (some ⟨a, 0, none⟩)] T_p_client_Client) := set_same
  generalize h.set r1 (.cells (Value.cells (.pointer (some ⟨a, 0, none⟩))) T_p_client_Client) = h1 at *
  have u2 : Ext h1 (h1.set r3 (.cells (Value.cells (.int .u64 x)) T_uint64)) := Upd.new hr3
  have e2 : (h1.set r3 (.cells (Value.cells (.int .u64 x)) T_uint64)) r3 = some (.cells #[.int .u64 x] T_uint64) := set_same
  have e3 := u2.get e1
  generalize h1.set r3 (.cells (Value.cells (.int .u64 x)) T_uint64) = h2 at *
  have w := u1.trans u2
  have ha := w.get ha0
  have hO := hO0.ext w
  have hlv := hO.slR.len (t' := T_int) T_sl_uint64.und
  rw [List.length_map] at hlv
  simp only [T_p_client_Client.load, cellH, e3, T_client_Client.f1, Nat.zero_add, T_sl_uint64.load, ha, hlv, zSS, reduceIte]
  refine Search_ok (f := fun i => decide (x ≤ hs.getD i 0)) (by omega) ?_ ?_ ?_
  · intro i j hij hj hfi
    simp only [decide_eq_true_eq] at hfi ⊢
    by_cases e : i = j
    · subst e; exact hfi
    · have := List.pairwise_iff_getElem.1 hup i j (by omega) hj (by omega)
      rw [List.getD_eq_getElem?_getD, List.getElem?_eq_getElem (by omega)] at hfi ⊢
      simp only [Option.getD_some] at hfi ⊢
      omega
  · intro i hi k' hk'
    show CallsH PG id_client_Client_place_1 #[.int .i64 i, .pointer (some ⟨r1, 0, none⟩), .pointer (some ⟨r3, 0, none⟩)] h2 k'
    apply client_Client_place_1.call
    unfold client_Client_place_1
    obtain ⟨p, p1, p2⟩ := hO.slR.u64 (k := .i64) (j := i) (m := hs.getD i 0) (by rw [List.getD_eq_getElem?_getD, List.getElem?_eq_getElem hi]; rfl)
    have p3 : SemE PG h2 (Instr.loadAt T_uint64 (.pointer (some ⟨r3, 0, none⟩))) = some (.int .u64 x) := by rw [T_uint64.load]; simp [cellH, e2]
    simp only [T_p_client_Client.load, cellH, e3, T_client_Client.f1, Nat.zero_add, T_sl_uint64.load, ha, p1, p2, p3, zSS, reduceIte]
    exact hk'
  · intro m hm h1 h2
    refine hk m _ hm ?_ ?_ w
    · intro y hy
      obtain ⟨i, hi, rfl⟩ := List.mem_iff_getElem.1 hy
      rw [List.length_take] at hi
      have := h1 i (by omega)
      rw [List.getD_eq_getElem?_getD, List.getElem?_eq_getElem (by omega)] at this
      simp only [Option.getD_some, decide_eq_false_iff_not] at this
      rw [List.getElem_take]
      omega
    · intro y hy
      obtain ⟨i, hi, rfl⟩ := List.mem_iff_getElem.1 hy
      rw [List.length_drop] at hi
      have := h2 (m + i) (by omega) (by omega)
      rw [List.getD_eq_getElem?_getD, List.getElem?_eq_getElem (by omega)] at this
      simp only [Option.getD_some, decide_eq_true_eq] at this
      rw [List.getElem_drop]
      exact this
theorem Root_ok {h : PH} {a : Nat} {l : List Known} {hs : List Int} {F : List Nat} (hC : ClientAt h a l hs F) (x : Int) {k : Value → PH → Prop}
    (hk : k (.tuple #[.string ((rootL l x).getD ⟨#[]⟩), .bool (rootL l x).isSome]) h) : CallsH PG id_client_Client_Root #[.pointer (some ⟨a, 0, none⟩), .int .u64 x] h k := by
  apply client_Client_Root.call
  unfold client_Client_Root
  obtain ⟨r, v, G, ha, hM, hO, rfl, hn⟩ := hC.here
  have hl := look_found (ukeyed T_uint64.und) T_map_uint64_string.und T_string.info T_string.zero hM x true
  rw [getM_ent] at hl
  have hl' : SemE PG h (Instr.lookup T_map_uint64_string (.map (some r)) (.int .u64 x) true) = some (.tuple #[.string ((rootL l x).getD ⟨#[]⟩), .bool (rootL l x).isSome]) := by
    rw [show (Value.int .u64 x) = ukey x from rfl, hl]
    cases rootL l x <;> rfl
  simp only [cellH, T_client_Client.f0, T_map_uint64_string.load, ha, hl', zSS, reduceIte]
  exact hk
theorem Latest_ok {h : PH} {a : Nat} {l : List Known} {hs : List Int} {F : List Nat} (hC : ClientAt h a l hs F) {k : Value → PH → Prop}
    (hk : k (.int .u64 (latS hs)) h) : CallsH PG id_client_Client_Latest #[.pointer (some ⟨a, 0, none⟩)] h k := by
  have hlen := hC.rank.len
  have hfew := hC.few
  apply client_Client_Latest.call
  unfold client_Client_Latest
  obtain ⟨r, v, G, ha, hM, hO, rfl, hn⟩ := hC.here
  have hlv := hO.slR.len (t' := T_int) T_sl_uint64.und
  rw [List.length_map] at hlv
  simp only [cellH, T_client_Client.f1, Nat.zero_add, T_sl_uint64.load, ha, hlv, zSS, reduceIte]
  unfold latS at hk
  rw [List.getLast?_eq_getElem?] at hk
  by_cases hc : hs.length = 0
  · have e : ((hs.length : Int) == 0) = true := by simp [hc]
    have e2 : hs = [] := List.eq_nil_of_length_eq_zero hc
    simp only [e, zSS, reduceIte]
    rw [e2] at hk
    exact hk
  · have e : ((hs.length : Int) == 0) = false := by simpa using hc
    have e2 : IntKind.i64.wrap ((hs.length : Int) - 1) = ((hs.length - 1 : Nat) : Int) := by rw [i64_wrap (by omega) (by omega)]; omega
    obtain ⟨y, hy⟩ : ∃ y, hs[hs.length - 1]? = some y := ⟨_, List.getElem?_eq_getElem (by omega)⟩
    obtain ⟨p, p1, p2⟩ := hO.slR.u64 (k := .i64) hy
    simp only [e, e2, p1, p2, zSS, reduceIte]
    rw [hy] at hk
    exact hk
theorem ubuild (x : Int) : SemA PG (Instr.buildSlice T_sl_uint64 1 #[(0, .int .u64 x)]) = some (.cells #[.int .u64 x] T_uint64, fun r => pure (.slice (some ⟨r, 0, none⟩) 1 1)) := by kernel_rfl
set_option maxRecDepth 20000 in
theorem Set_ok {h : PH} {a : Nat} {l : List Known} {hs : List Int} {F : List Nat} (hC : ClientAt h a l hs F) (x : Known) {k : Value → PH → Prop}
    (hk : ∀ h' hs' F', ClientAt h' a (setK l x).2 hs' F' → Upd F h h' → (∀ b ∈ F', b ∈ F ∨ h b = none) → k (.int .i64 (setK l x).1) h') : CallsH PG id_client_Client_Set #[.pointer (some ⟨a, 0, none⟩), .int .u64 x.height, .string x.root] h k := by
  have hlen := hC.rank.len
  have hfew := hC.few
  apply client_Client_Set.call
  unfold client_Client_Set
  unfold setK at hk
  have hsame := hk
  simp only [T_string.len, zSS, reduceIte]
  by_cases c1 : x.root.size = 32
  · have e1 : ((x.root.size : Int) != 32) = false := by simp [c1]
    rw [if_neg (by simpa using c1)] at hk
    obtain ⟨r, v, G, ha, hM, hO, hF, n1, n2, n3⟩ := hC.here
    have hl := look_found (ukeyed T_uint64.und) T_map_uint64_string.und T_string.info T_string.zero hM x.height true
    rw [getM_ent] at hl
    have hl' : SemE PG h (Instr.lookup T_map_uint64_string (.map (some r)) (.int .u64 x.height) true) = some (.tuple #[.string ((rootL l x.height).getD ⟨#[]⟩), .bool (rootL l x.height).isSome]) := by
      rw [show (Value.int .u64 x.height) = ukey x.height from rfl, hl]
      cases rootL l x.height <;> rfl
    simp only [e1, cellH, T_client_Client.f0, T_map_uint64_string.load, ha, hl', rootL_some, zSS, reduceIte]
    by_cases c2 : x.height ∈ hts l
    · simp only [c2, zSS, reduceIte]
      rw [if_pos c2] at hk
      exact hk _ _ _ hC Upd.refl (fun b hb => .inl hb)
    · rw [if_neg c2] at hk
      have hml := hM.len (t' := T_int) T_map_uint64_string.und
      rw [List.length_map] at hml
      simp only [c2, hml, zSS, reduceIte]
      by_cases c3 : 4096 ≤ l.length
      · have e3 : ((4096 : Int) ≤ (l.length : Int)) = True := by apply eq_true; omega
        simp only [e3, zSS, reduceIte]
        rw [if_pos c3] at hk
        exact hk _ _ _ hC Upd.refl (fun b hb => .inl hb)
      · have e3 : ((4096 : Int) ≤ (l.length : Int)) = False := by apply eq_false; omega
        rw [if_neg c3] at hk
        simp only [e3, zSS, reduceIte]
        refine map_put (enc := ukey) (ukeyed T_uint64.und) T_map_uint64_string.und hM x.height (.string x.root) fun h1 hM1 u1 => ?_
        have hput : putM (l.map Known.ent) x.height (.string x.root) = (l ++ [x]).map Known.ent := by
          unfold putM
          rw [keys_ent, if_neg c2]
          simp [Known.ent]
        rw [hput] at hM1
        have ha1 := u1.get ha (by simp [n1])
        have hO1 := hO.upd u1 (fun b hb hf => by simp at hf; subst hf; exact n3 hb)
        refine place_at ha1 hO1 hC.rank.up (by omega) x.height fun m h2 hm p1 p2 u2 => ?_
        have ha2 := u2.get ha1
        have hO2 := hO1.ext u2
        have hM2 := hM1.ext u2
        obtain ⟨va, w1, w2⟩ := hO2.slR.full T_sl_uint64.und T_uint64.info (m := m) (k2 := .i64) (k3 := .i64) (by simpa using hm)
        obtain ⟨y, y1, y2, -⟩ := hO2.slR.cut T_sl_uint64.und T_uint64.info T_uint64.size (hi := none) (.inr ⟨.i64, rfl⟩) (.inl ⟨rfl, rfl⟩) (show m ≤ _ by simpa using hm) (Nat.le_refl _)
        rw [List.take_of_length_le (Nat.le_refl _)] at y2
        simp only [cellH, T_client_Client.f1, Nat.zero_add, T_sl_uint64.load, ha2, w1, y1, ubuild, zSS, reduceIte]
        intro r3 hr3
        refine popO_pure ?_
        have u3 : Ext h2 (h2.set r3 (.cells #[.int .u64 x.height] T_uint64)) := Upd.new hr3
        have hx3 : SlR (h2.set r3 (.cells #[.int .u64 x.height] T_uint64)) 1 (.slice (some ⟨r3, 0, none⟩) 1 1) ([x.height].map ucell) := (OwnR.lit (ucell.rows _) set_same (by simp) (by decide) (by simp [ucell])).slR
        generalize h2.set r3 (.cells #[.int .u64 x.height] T_uint64) = h3 at *
        refine append_grow T_sl_uint64.und T_sl_uint64.und T_uint64.info T_uint64.size T_uint64.bytes T_uint64.zero rfl (by decide) (w2.ext u3) rfl hx3 (by simp; omega) (by simp) fun v4 h4 F4 hO4 u4 k4 => ?_
        have ha4 := (u3.trans u4).get ha2
        refine ⟨by simp [ha4], ?_⟩
        rw [← List.map_take, ← List.map_append] at hO4
        have y4 := (y2.ext u3).ext u4
        rw [← List.map_drop] at y4
        refine append_own T_sl_uint64.und T_sl_uint64.und T_uint64.info T_uint64.size T_uint64.bytes T_uint64.zero rfl (by decide) hO4 y4 (ucell.isCell _) (by simp; omega) ?_
        intro v5 h5 F5 hO5 u5 k5 _
        rw [← List.map_append] at hO5
        have na4 : a ∉ F4 := fun hm' => by have := k4 a hm'; rw [u3.get ha2] at this; cases this
        have nr4 : r ∉ F4 := fun hm' => (hM2.ext u3).known (k4 r hm')
        have ha5 := u5.get ha4 na4
        have hM5 := ((hM2.ext u3).ext u4).upd u5 nr4
        have na5 : a ∉ F5 := fun hm' => by
          rcases k5 a hm' with h | h
          · exact na4 h
          · rw [ha4] at h; cases h
        have nr5 : r ∉ F5 := fun hm' => by
          rcases k5 r hm' with h | h
          · exact nr4 h
          · exact (((hM2.ext u3).ext u4)).known h
        refine store_cell T_sl_uint64.und rfl ha5 (by simp) ?_ T_sl_uint64.info T_sl_uint64.size ?_
        · obtain ⟨_, _, rfl, -⟩ := hO5.slR.here; rfl
        have u6 : Upd [a] h5 (h5.set a (.cells ((#[.map (some r), v] : Array Value).setIfInBounds 1 v5) T_client_Client (0, 0))) := Upd.set (by simp)
        have ua : Upd F h h4 := by
          have : Upd [r] h h4 := (u1.trans u2.upd).trans (u3.trans u4).upd
          exact this.mono fun b hb => .inl (by simp at hb; subst hb; rw [hF]; simp)
        have g4 : ∀ b ∈ F4, h b = none := fun b hb => by
          have hb3 : h2 b = none := u3.none (k4 b hb)
          have hb1 : h1 b = none := u2.none hb3
          cases e : h b with
          | none => rfl
          | some o =>
            by_cases hbr : b = r
            · subst hbr; exact absurd hb1 hM1.known
            · have := u1.get e (by simp [hbr]); rw [hb1] at this; cases this
        have g5 : ∀ b ∈ F5, h b = none := fun b hb => by
          rcases k5 b hb with h' | h'
          · exact g4 b h'
          · cases e : h b with
            | none => rfl
            | some o =>
              by_cases hbF : b ∈ F
              · rw [hF] at hbF
                simp only [List.mem_cons] at hbF
                rcases hbF with rfl | rfl | hbG
                · rw [ha4] at h'; cases h'
                · exact absurd h' ((hM2.ext u3).ext u4).known
                · exact absurd h' (((hO2.ext u3).ext u4).known b hbG)
              · have := ua.get e hbF; rw [h'] at this; cases this
        refine hk _ (hs.take m ++ [x.height] ++ hs.drop m) (a :: r :: F5) ⟨⟨r, v5, F5, set_same, hM5.upd u6 (by simp; exact n1.symm), hO5.upd u6 (fun b hb hf => by simp at hf; subst hf; exact na5 hb), rfl, n1, na5, nr5⟩, hC.rank.cut c2 p1 p2, by simp; omega⟩ ?_ ?_
        · exact (ua.then u5 (fun b hb => .inr (g4 b hb))).then u6 (fun b hb => .inl (by simp at hb; subst hb; rw [hF]; simp))
        · intro b hb
          simp only [List.mem_cons] at hb
          rcases hb with rfl | rfl | hb
          · exact .inl (by rw [hF]; simp)
          · exact .inl (by rw [hF]; simp)
          · exact .inr (g5 b hb)
  · have e1 : ((x.root.size : Int) != 32) = true := by simp; omega
    rw [if_pos (by simpa using c1)] at hk
    simp only [e1, zSS, reduceIte]
    exact hk _ _ _ hC Upd.refl (fun b hb => .inl hb)
end Go.Proofs.YtcoajnpchhmgjaaGreatDoor
namespace Go.Proofs.YtcoajnpchhmgjaaGreatDoor
open Go
set_option maxRecDepth 20000
def ncell (n : Nat) : List Value := [.int .u64 (n : Int)]
theorem ncell.rows (l : List Nat) : Rows 1 (l.map ncell) := fun r hr => by
  obtain ⟨p, -, rfl⟩ := List.mem_map.1 hr; rfl
def dval : List Nat → Nat
  | [] => 0
  | d :: l => d + 4294967296 * dval l
def Dig (l : List Nat) : Prop := ∀ d ∈ l, d < 4294967296
theorem bpos (n : Nat) : 0 < 4294967296 ^ n := Nat.pow_pos (by decide)
theorem dval_set : ∀ (l : List Nat) (i d : Nat) (x : Nat), l[i]? = some x → dval (l.set i d) + x * 4294967296 ^ i = dval l + d * 4294967296 ^ i
  | [], i, d, x, h => by simp at h
  | a :: l, 0, d, x, h => by
    simp only [List.getElem?_cons_zero, Option.some.injEq] at h
    subst h
    simp only [List.set_cons_zero, dval, Nat.pow_zero, Nat.mul_one]
    omega
  | a :: l, i + 1, d, x, h => by
    have ih := dval_set l i d x (by simpa using h)
    simp only [List.set_cons_succ, dval]
    have e1 : x * 4294967296 ^ (i + 1) = 4294967296 * (x * 4294967296 ^ i) := by rw [Nat.pow_succ, Nat.mul_comm (4294967296 ^ i), Nat.mul_left_comm]
    have e2 : d * 4294967296 ^ (i + 1) = 4294967296 * (d * 4294967296 ^ i) := by rw [Nat.pow_succ, Nat.mul_comm (4294967296 ^ i), Nat.mul_left_comm]
    rw [e1, e2]
    omega
theorem dval_lt : ∀ {l : List Nat}, Dig l → dval l < 4294967296 ^ l.length
  | [], _ => by simp [dval]
  | a :: l, h => by
    have ih := dval_lt (l := l) fun d hd => h d (by simp [hd])
    have ha := h a (by simp)
    simp only [dval, List.length_cons, Nat.pow_succ]
    omega
theorem dval_digit : ∀ {l : List Nat}, Dig l → ∀ i, dval l / 4294967296 ^ i % 4294967296 = l.getD i 0
  | [], _, i => by simp [dval]
  | a :: l, h, 0 => by
    have ha := h a (by simp)
    simp only [dval, Nat.pow_zero, Nat.div_one, List.getD_cons_zero]
    omega
  | a :: l, h, i + 1 => by
    have ih := dval_digit (l := l) (fun d hd => h d (by simp [hd])) i
    have ha := h a (by simp)
    have e : (a + 4294967296 * dval l) / 4294967296 = dval l := by omega
    simp only [dval, List.getD_cons_succ]
    rw [Nat.pow_succ, Nat.mul_comm (4294967296 ^ i), ← Nat.div_div_eq_div_mul, e, ih]
theorem dval_take : ∀ (l : List Nat) (i x : Nat), l[i]? = some x → dval (l.take (i + 1)) = dval (l.take i) + x * 4294967296 ^ i
  | [], i, x, h => by simp at h
  | a :: l, 0, x, h => by
    simp only [List.getElem?_cons_zero, Option.some.injEq] at h
    subst h
    simp [dval]
  | a :: l, i + 1, x, h => by
    have ih := dval_take l i x (by simpa using h)
    simp only [List.take_succ_cons, dval]
    have e1 : x * 4294967296 ^ (i + 1) = 4294967296 * (x * 4294967296 ^ i) := by rw [Nat.pow_succ, Nat.mul_comm (4294967296 ^ i), Nat.mul_left_comm]
    rw [ih, e1]
    omega
theorem dval_take_le (l : List Nat) : ∀ i, dval (l.take i) ≤ dval l := by
  induction l with
  | nil => intro i; simp
  | cons a l ih =>
    intro i
    cases i with
    | zero => simp [dval]
    | succ i =>
      have := ih i
      simp only [List.take_succ_cons, dval]
      omega
theorem dval_zeros (n : Nat) : dval (List.replicate n 0) = 0 := by
  induction n with
  | zero => rfl
  | succ n ih => simp only [List.replicate_succ, dval, ih]
theorem dig_zeros (n : Nat) : Dig (List.replicate n 0) := fun d hd => by
  rw [List.mem_replicate] at hd
  omega
abbrev UOwn (h : PH) (v : Value) (l : List Nat) (F : List Nat) : Prop := OwnR h T_uint64 1 v (l.map ncell) F
theorem u_at {h : PH} {v : Value} {l : List Nat} (S : SlR h 1 v (l.map ncell)) {i x : Nat} (hx : l[i]? = some x) : ∃ a, SemP PG (Instr.indexAt T_sl_uint64 v (.int .i64 (i : Int))) = some (.pointer (some a)) ∧ SemE PG h (Instr.loadAt T_uint64 (.pointer (some a))) = some (.int .u64 (x : Int)) :=
  S.loadCell (t := T_sl_uint64) (k := .i64) (j := (i : Int)) T_sl_uint64.und T_uint64.info T_uint64.size T_uint64.und rfl (by omega) (by rw [Int.toNat_natCast, List.getElem?_map, hx]; rfl)
theorem u_len {h : PH} {v : Value} {l : List Nat} (S : SlR h 1 v (l.map ncell)) : SemP PG (Builtin.len_ #[T_sl_uint64] T_int #[v]) = some (.int .i64 l.length) := by
  have := S.len (t' := T_int) T_sl_uint64.und
  rw [List.length_map] at this
  exact this
theorem u_make {h : PH} {n : Nat} (hn : n ≤ 1000) : ∃ zs, SemA PG (Instr.makeSlice T_sl_uint64 (.int .i64 n) (.int .i64 n)) = some (.cells zs T_uint64 (0, 0), fun r => pure (.slice (some ⟨r, 0, none⟩) n n)) ∧ zs.toList = ((List.replicate n 0).map ncell).flatten := by
  obtain ⟨zs', hm, hz⟩ := makeSlice_eq (P := PG) (n := n) T_sl_uint64.und T_uint64.info T_uint64.size T_uint64.bytes T_uint64.zero rfl (by decide) (by omega) (by omega)
  refine ⟨zs', hm, ?_⟩
  rw [hz, List.map_replicate]
  rfl
theorem add_ok {h : PH} {v : Value} {l : List Nat} {F : List Nat} (O : UOwn h v l F) (hd : Dig l) (pos x : Nat) (hp : pos ≤ 1000) (hx : x ≤ 18446744069414584320) (hT : dval l + x * 4294967296 ^ pos < 4294967296 ^ l.length) (hl : l.length ≤ 1000) {k : Value → PH → Prop}
    (hk : ∀ h' l', UOwn h' v l' F → Dig l' → l'.length = l.length → dval l' = dval l + x * 4294967296 ^ pos → Upd F h h' → k (.tuple #[]) h') : CallsH PG id_carrackref01_add #[v, .int .i64 (pos : Int), .int .u64 (x : Int)] h k := by
  apply carrackref01_add.call
  unfold carrackref01_add
  generalize hTT : dval l + x * 4294967296 ^ pos = T at *
  refine ⟨fun vs h' => ∃ (l' : List Nat) (p y : Nat), vs = [v, .int .i64 (p : Int), .int .u64 (y : Int)] ∧ UOwn h' v l' F ∧ Dig l' ∧ l'.length = l.length ∧ p ≤ 1001 ∧ y ≤ 18446744069414584320 ∧ dval l' + y * 4294967296 ^ p = T ∧ Upd F h h', upTo l.length 1, ⟨l, pos, x, rfl, O, hd, rfl, by omega, hx, hTT, Upd.refl⟩, ?_⟩
  rintro ρ h' ⟨l', p, y, hvs, O', hd', hl', hp', hy, hv, u⟩
  simp only [List.map_cons, List.map_nil, List.cons.injEq, and_true] at hvs
  obtain ⟨v0, v1, v2⟩ := hvs
  simp only [v0, v1, v2, List.map_cons, List.map_nil]
  unfold carrackref01_add_b2
  have lv := u_len O'.slR
  by_cases h0 : y = 0
  · subst h0
    have g1 : ((0 : Int) < ((0 : Nat) : Int)) = False := eq_false (by decide)
    simp only [g1, zSS, reduceIte]
    exact hk h' l' O' hd' hl' (by rw [← hv]; simp) u
  have g1 : ((0 : Int) < (y : Int)) = True := eq_true (by omega)
  by_cases hlt : p < l'.length
  · have g2 : ((p : Int) < (l'.length : Int)) = True := eq_true (by omega)
    have hx' : l'[p]? = some l'[p] := List.getElem?_eq_getElem hlt
    have hdx := hd' _ (List.getElem_mem hlt)
    generalize l'[p] = d at *
    obtain ⟨pa, p1, p2⟩ := u_at O'.slR hx'
    have e1 : Int.tmod (y : Int) 4294967296 = ((y % 4294967296 : Nat) : Int) := (Int.ofNat_tmod _ 4294967296).symm
    have e2 : IntKind.u64.wrap (((y % 4294967296 : Nat) : Int) + (d : Int)) = ((y % 4294967296 + d : Nat) : Int) := by rw [u64_wrap (by omega) (by omega)]; omega
    have e3 : Int.tdiv (y : Int) 4294967296 = ((y / 4294967296 : Nat) : Int) := rfl
    have e4 : IntKind.u64.wrap ((y / 4294967296 : Nat) : Int) = ((y / 4294967296 : Nat) : Int) := u64_wrap (by omega) (by omega)
    have e5 : IntKind.u64.wrap (((y / 4294967296 : Nat) : Int) * 4294967296) = ((y / 4294967296 * 4294967296 : Nat) : Int) := by rw [u64_wrap (by omega) (by omega)]; omega
    have e6 : IntKind.u64.wrap (((y % 4294967296 + d : Nat) : Int) + ((y / 4294967296 * 4294967296 : Nat) : Int)) = ((y + d : Nat) : Int) := by rw [u64_wrap (by omega) (by omega)]; omega
    have e7 : Int.tmod ((y + d : Nat) : Int) 4294967296 = (((y + d) % 4294967296 : Nat) : Int) := (Int.ofNat_tmod _ 4294967296).symm
    have e8 : Int.tdiv ((y + d : Nat) : Int) 4294967296 = (((y + d) / 4294967296 : Nat) : Int) := rfl
    have e9 : IntKind.u64.wrap (((y + d) / 4294967296 : Nat) : Int) = (((y + d) / 4294967296 : Nat) : Int) := u64_wrap (by omega) (by omega)
    have e10 : IntKind.i64.wrap ((p : Int) + 1) = ((p + 1 : Nat) : Int) := by rw [i64_wrap (by omega) (by omega)]; omega
    have rm : ∀ (t : TypeId) (a : Int), SemP PG (binOp .rem t (.int .u64 a) (.int .u64 4294967296)) = some (.int .u64 (a.tmod 4294967296)) := fun t a => rem_eq (by decide)
    have qu : ∀ (t : TypeId) (a : Int), SemP PG (binOp .quo t (.int .u64 a) (.int .u64 4294967296)) = some (.int .u64 (IntKind.u64.wrap (a.tdiv 4294967296))) := fun t a => quo_eq (by decide)
    obtain ⟨pb, q1, q2⟩ := O'.storeCell (t := T_sl_uint64) (k := .i64) (j := p) T_sl_uint64.und T_uint64.info T_uint64.size T_uint64.und rfl (by simpa using hlt) (x := .int .u64 (((y + d) % 4294967296 : Nat) : Int)) rfl
    rw [p1] at q1
    obtain rfl : pa = pb := by simpa using q1
    simp only [g1, lv, g2, rm, qu, e1, p1, p2, e2, e3, e4, e5, e6, e7, zSS, reduceIte]
    refine q2 _ fun h2 O2 u2 => ?_
    have hrows : (l'.map ncell).take p ++ [[(.int .u64 (((y + d) % 4294967296 : Nat) : Int) : Value)]] ++ (l'.map ncell).drop (p + 1) = (l'.set p ((y + d) % 4294967296)).map ncell := by
      rw [List.set_eq_take_append_cons_drop, if_pos hlt, List.map_append, List.map_cons, List.map_take, List.map_drop]
      simp [ncell]
    rw [hrows] at O2
    simp only [e8, e9, e10, zSS, reduceIte]
    refine ⟨⟨_, p + 1, (y + d) / 4294967296, rfl, O2, fun z hz => ?_, by simpa using hl', by omega, by omega, ?_, u.trans u2⟩, ?_⟩
    · rcases List.mem_or_eq_of_mem_set hz with hz | rfl
      · exact hd' z hz
      · exact Nat.mod_lt _ (by decide)
    · have := dval_set l' p ((y + d) % 4294967296) d hx'
      have e : (y + d) % 4294967296 * 4294967296 ^ p + (y + d) / 4294967296 * 4294967296 ^ (p + 1) = (y + d) * 4294967296 ^ p := by
        rw [Nat.pow_succ, Nat.mul_comm (4294967296 ^ p) 4294967296, ← Nat.mul_assoc, ← Nat.add_mul]
        congr 1
        omega
      rw [Nat.add_mul] at e
      omega
    · simp only [upTo, List.getElem?_cons_succ, List.getElem?_cons_zero]
      omega
  · exfalso
    have h1 : 4294967296 ^ l.length ≤ 4294967296 ^ p := Nat.pow_le_pow_right (by decide) (by omega)
    have h2 : 4294967296 ^ p ≤ y * 4294967296 ^ p := Nat.le_mul_of_pos_left _ (by omega)
    omega
theorem spread_ok {h : PH} {v : Value} {l : List Nat} (S : SlR h 1 v (l.map ncell)) (hs : ∀ d ∈ l, d ≤ 18446744069414584320) (hT : dval l < 4294967296 ^ (l.length + 1)) (hl : l.length ≤ 100) {k : Value → PH → Prop}
    (hk : ∀ h' v' l' F', UOwn h' v' l' F' → Dig l' → l'.length = l.length + 1 → dval l' = dval l → Fresh h F' → Ext h h' → k v' h') : CallsH PG id_carrackref01_spread #[v] h k := by
  apply carrackref01_spread.call
  unfold carrackref01_spread
  have lv := u_len S
  have e1 : IntKind.i64.wrap ((l.length : Int) + 1) = ((l.length + 1 : Nat) : Int) := by rw [i64_wrap (by omega) (by omega)]; omega
  obtain ⟨zs, m1, m2⟩ := u_make (h := h) (n := l.length + 1) (by omega)
  simp only [lv, e1, m1, zSS, reduceIte]
  intro r hr
  refine popO_pure ?_
  try rw [bindH_eq]
  have u1 : Ext h (h.set r (.cells zs T_uint64 (0, 0))) := Upd.new hr
  have O1 : UOwn (h.set r (.cells zs T_uint64 (0, 0))) (.slice (some ⟨r, 0, none⟩) (l.length + 1) (l.length + 1)) (List.replicate (l.length + 1) 0) [r] := OwnR.lit (n := l.length + 1) (ncell.rows _) set_same (by simp) (by unfold maxL; omega) m2
  generalize h.set r (.cells zs T_uint64 (0, 0)) = h1 at *
  refine ⟨fun vs h' => ∃ (i : Nat) (l' : List Nat), i ≤ l.length ∧ vs = [v, .slice (some ⟨r, 0, none⟩) (l.length + 1) (l.length + 1), .int .i64 (i : Int)] ∧ UOwn h' (.slice (some ⟨r, 0, none⟩) (l.length + 1) (l.length + 1)) l' [r] ∧ Dig l' ∧ l'.length = l.length + 1 ∧ dval l' = dval (l.take i) ∧ Ext h h', upTo l.length 2, ⟨0, _, by omega, rfl, O1, dig_zeros _, by simp, by rw [dval_zeros]; rfl, u1⟩, ?_⟩
  rintro ρ h' ⟨i, l', hi, hvs, O', hd', hl', hv, u⟩
  simp only [List.map_cons, List.map_nil, List.cons.injEq, and_true] at hvs
  obtain ⟨v0, v3, v4⟩ := hvs
  simp only [v0, v3, v4, List.map_cons, List.map_nil]
  unfold carrackref01_spread_b8
  by_cases hlt : i < l.length
  · have g1 : ((i : Int) < (l.length : Int)) = True := eq_true (by omega)
    have gi : IntKind.i64.wrap ((i : Int) + 1) = ((i + 1 : Nat) : Int) := by rw [i64_wrap (by omega) (by omega)]; omega
    have hx' : l[i]? = some l[i] := List.getElem?_eq_getElem hlt
    have hdx := hs _ (List.getElem_mem hlt)
    generalize l[i] = d at *
    obtain ⟨pa, p1, p2⟩ := u_at (S.ext u) hx'
    simp only [lv, g1, p1, p2, zSS, reduceIte]
    have ht := dval_take l i d hx'
    have hle := dval_take_le l (i + 1)
    refine add_ok O' hd' i d (by omega) hdx (by rw [hl', hv, ← ht]; omega) (by omega) fun h2 l2 O2 hd2 hl2 hv2 u2 => ?_
    simp only [gi, zSS, reduceIte]
    refine ⟨⟨i + 1, l2, by omega, rfl, O2, hd2, by omega, by rw [hv2, hv, ht], u.fresh u2 (Fresh.one hr)⟩, ?_⟩
    simp only [upTo, List.getElem?_cons_succ, List.getElem?_cons_zero]
    omega
  · have g1 : ((i : Int) < (l.length : Int)) = False := eq_false (by omega)
    simp only [lv, g1, zSS, reduceIte]
    rw [List.take_of_length_le (by omega)] at hv
    exact hk h' _ l' [r] O' hd' hl' hv (Fresh.one hr) u
theorem multiply_ok {h : PH} {v : Value} {l : List Nat} (S : SlR h 1 v (l.map ncell)) (hs : ∀ d ∈ l, d ≤ 18446744069414584320) (hT : dval l < 4294967296 ^ (l.length + 1)) (hl : l.length ≤ 50) (x : Nat) (hx : x < 137438953472) {k : Value → PH → Prop}
    (hk : ∀ h' v' l' F', UOwn h' v' l' F' → Dig l' → l'.length = l.length + 4 → dval l' = dval l * x → Fresh h F' → Ext h h' → k v' h') : CallsH PG id_carrackref01_multiply #[v, .int .u64 (x : Int)] h k := by
  apply carrackref01_multiply.call
  unfold carrackref01_multiply
  refine spread_ok S hs hT (by omega) fun h1 w p F1 O1 hd1 hl1 hv1 f1 u1 => ?_
  have S1 := O1.slR
  have lw := u_len S1
  have e1 : IntKind.i64.wrap ((p.length : Int) + 3) = ((p.length + 3 : Nat) : Int) := by rw [i64_wrap (by omega) (by omega)]; omega
  have e2 : Int.tmod (x : Int) 4294967296 = ((x % 4294967296 : Nat) : Int) := (Int.ofNat_tmod _ 4294967296).symm
  have e3 : Int.tdiv (x : Int) 4294967296 = ((x / 4294967296 : Nat) : Int) := rfl
  have e4 : IntKind.u64.wrap ((x / 4294967296 : Nat) : Int) = ((x / 4294967296 : Nat) : Int) := u64_wrap (by omega) (by omega)
  have rm : ∀ (t : TypeId) (a : Int), SemP PG (binOp .rem t (.int .u64 a) (.int .u64 4294967296)) = some (.int .u64 (a.tmod 4294967296)) := fun t a => rem_eq (by decide)
  have qu : ∀ (t : TypeId) (a : Int), SemP PG (binOp .quo t (.int .u64 a) (.int .u64 4294967296)) = some (.int .u64 (IntKind.u64.wrap (a.tdiv 4294967296))) := fun t a => quo_eq (by decide)
  obtain ⟨zs, m1, m2⟩ := u_make (h := h) (n := p.length + 3) (by omega)
  simp only [rm, qu, e2, e3, e4, lw, e1, m1, zSS, reduceIte]
  intro r hr
  refine popO_pure ?_
  try rw [bindH_eq]
  have u2 : Ext h1 (h1.set r (.cells zs T_uint64 (0, 0))) := Upd.new hr
  have O2 : UOwn (h1.set r (.cells zs T_uint64 (0, 0))) (.slice (some ⟨r, 0, none⟩) (p.length + 3) (p.length + 3)) (List.replicate (p.length + 3) 0) [r] := OwnR.lit (n := p.length + 3) (ncell.rows _) set_same (by simp) (by unfold maxL; omega) m2
  generalize h1.set r (.cells zs T_uint64 (0, 0)) = h2 at *
  have hr0 : h r = none := u1.none hr
  have hpl := dval_lt hd1
  have hF1r : ∀ b ∈ F1, b ∉ [r] := fun b hb hm => by
    simp only [List.mem_singleton] at hm
    subst hm
    exact O1.known _ hb hr
  have hbig : dval p * x < 4294967296 ^ (p.length + 3) := by
    have hx2 : x < 4294967296 ^ 2 := by
      have : (4294967296 : Nat) ^ 2 = 18446744073709551616 := by decide
      omega
    calc dval p * x ≤ dval p * 4294967296 ^ 2 := Nat.mul_le_mul_left _ (by omega)
      _ < 4294967296 ^ p.length * 4294967296 ^ 2 := Nat.mul_lt_mul_of_pos_right hpl (bpos 2)
      _ = 4294967296 ^ (p.length + 2) := by rw [← Nat.pow_add]
      _ ≤ 4294967296 ^ (p.length + 3) := Nat.pow_le_pow_right (by decide) (by omega)
  refine ⟨fun vs h' => ∃ (i : Nat) (l' : List Nat), i ≤ p.length ∧ vs = [w, .int .u64 ((x % 4294967296 : Nat) : Int), .int .u64 ((x / 4294967296 : Nat) : Int), .slice (some ⟨r, 0, none⟩) (p.length + 3) (p.length + 3), .int .i64 (i : Int)] ∧ UOwn h' (.slice (some ⟨r, 0, none⟩) (p.length + 3) (p.length + 3)) l' [r] ∧ Dig l' ∧ l'.length = p.length + 3 ∧ dval l' = dval (p.take i) * x ∧ Upd [r] h2 h', upTo p.length 4, ⟨0, _, by omega, rfl, O2, dig_zeros _, by simp, by rw [dval_zeros]; simp [dval], Upd.refl⟩, ?_⟩
  rintro ρ h' ⟨i, l', hi, hvs, O', hd', hl', hv, u⟩
  simp only [List.map_cons, List.map_nil, List.cons.injEq, and_true] at hvs
  obtain ⟨v0, v5, v6, v7, v8⟩ := hvs
  simp only [v0, v5, v6, v7, v8, List.map_cons, List.map_nil]
  unfold carrackref01_multiply_b12
  have Sw := ((O1.ext u2).upd u hF1r)
  by_cases hlt : i < p.length
  · have g1 : ((i : Int) < (p.length : Int)) = True := eq_true (by omega)
    have gi : IntKind.i64.wrap ((i : Int) + 1) = ((i + 1 : Nat) : Int) := by rw [i64_wrap (by omega) (by omega)]; omega
    have hx' : p[i]? = some p[i] := List.getElem?_eq_getElem hlt
    have hdx := hd1 _ (List.getElem_mem hlt)
    generalize p[i] = d at *
    obtain ⟨pa, p1, p2⟩ := u_at Sw.slR hx'
    have hm1 : d * (x % 4294967296) ≤ 4294967295 * 4294967295 := Nat.mul_le_mul (by omega) (by omega)
    have hm2 : d * (x / 4294967296) ≤ 4294967295 * 31 := Nat.mul_le_mul (by omega) (by omega)
    have f1' : IntKind.u64.wrap ((d : Int) * ((x % 4294967296 : Nat) : Int)) = ((d * (x % 4294967296) : Nat) : Int) := by rw [← Int.natCast_mul, u64_wrap (Int.natCast_nonneg _) (by omega)]
    have f2' : IntKind.u64.wrap ((d : Int) * ((x / 4294967296 : Nat) : Int)) = ((d * (x / 4294967296) : Nat) : Int) := by rw [← Int.natCast_mul, u64_wrap (Int.natCast_nonneg _) (by omega)]
    have ht := dval_take p i d hx'
    have hle := Nat.mul_le_mul_right x (dval_take_le p (i + 1))
    have hsum : d * (x % 4294967296) * 4294967296 ^ i + d * (x / 4294967296) * 4294967296 ^ (i + 1) = d * 4294967296 ^ i * x := by
      have e : x % 4294967296 + x / 4294967296 * 4294967296 = x := by omega
      calc d * (x % 4294967296) * 4294967296 ^ i + d * (x / 4294967296) * 4294967296 ^ (i + 1)
          = d * 4294967296 ^ i * (x % 4294967296 + x / 4294967296 * 4294967296) := by rw [Nat.pow_succ, Nat.mul_add]; ac_rfl
        _ = _ := by rw [e]
    have htx : dval (p.take (i + 1)) * x = dval (p.take i) * x + d * 4294967296 ^ i * x := by rw [ht, Nat.add_mul]
    simp only [lw, g1, p1, p2, f1', zSS, reduceIte]
    refine add_ok O' hd' i _ (by omega) (by omega) (by rw [hl', hv]; omega) (by omega) fun h3 l3 O3 hd3 hl3 hv3 u3 => ?_
    have Sw3 := Sw.upd u3 hF1r
    obtain ⟨pb, q1, q2⟩ := u_at Sw3.slR hx'
    rw [p1] at q1
    obtain rfl : pa = pb := by simpa using q1
    simp only [gi, p1, q2, f2', zSS, reduceIte]
    refine add_ok O3 hd3 (i + 1) _ (by omega) (by omega) (by rw [hl3, hl', hv3, hv]; omega) (by omega) fun h4 l4 O4 hd4 hl4 hv4 u4 => ?_
    try simp only [gi, zSS, reduceIte]
    refine ⟨⟨i + 1, l4, by omega, rfl, O4, hd4, by omega, by rw [hv4, hv3, hv]; omega, (u.trans u3).trans u4⟩, ?_⟩
    simp only [upTo, List.getElem?_cons_succ, List.getElem?_cons_zero]
    omega
  · have g1 : ((i : Int) < (p.length : Int)) = False := eq_false (by omega)
    simp only [lw, g1, zSS, reduceIte]
    rw [List.take_of_length_le (by omega)] at hv
    exact hk h' _ l' [r] O' hd' (by omega) (by rw [hv, hv1]) (Fresh.one hr0) ((u1.trans u2).fresh u (Fresh.one hr0))
end Go.Proofs.YtcoajnpchhmgjaaGreatDoor
