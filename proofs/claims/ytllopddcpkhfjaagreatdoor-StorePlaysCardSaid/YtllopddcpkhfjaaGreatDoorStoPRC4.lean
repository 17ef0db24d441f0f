/- The texts of this claim, put together. -/
import Derived.Test.YtllopddcpkhfjaaGreatDoorStoPRC3
import Derived.Test.YtllopddcpkhfjaaGreatDoorCards
import Derived.Test.YtllopddcpkhfjaaGreatDoorTie
import Derived.WalkKit
import Derived.ProofKit
/- store: the plain store. -/
set_option linter.unusedSimpArgs false
set_option linter.unusedVariables false
namespace Go.Proofs.YtllopddcpkhfjaaGreatDoor
open Go Bld
set_option maxRecDepth 20000
def Up (l : List Pr) : Prop := l.Pairwise fun a b => a.k < b.k
def setL (L : List Pr) (p : Pr) : List Pr := L.filter (fun q => decide (q.k < p.k)) ++ p :: L.filter (fun q => decide (p.k < q.k))
def delL (L : List Pr) (k : Tx) : List Pr := L.filter fun q => decide (q.k ≠ k)
def getL (L : List Pr) (k : Tx) : Option Pr := L.find? fun q => decide (k = q.k)
theorem Up.irr {L : List Pr} (h : Up L) : L.Nodup := by
  refine List.Pairwise.imp (fun {a b} hab => ?_) h
  rintro rfl
  exact List.lt_irrefl _ hab
theorem Up.keys {L : List Pr} (h : Up L) : (L.map Pr.k).Nodup := by
  unfold List.Nodup
  rw [List.pairwise_map]
  refine List.Pairwise.imp (fun {a b} hab e => ?_) h
  rw [e] at hab
  exact List.lt_irrefl _ hab
theorem Up.ext {A B : List Pr} (ha : Up A) (hb : Up B) (h : ∀ p, p ∈ A ↔ p ∈ B) : A = B := by
  have hp : A.Perm B := (List.perm_ext_iff_of_nodup ha.irr hb.irr).2 h
  unfold Up at ha hb
  exact List.Perm.eq_of_pairwise (le := fun a b : Pr => a.k < b.k) (fun a b _ _ (h1 : a.k < b.k) h2 => absurd h2 (List.lt_asymm h1)) ha hb hp
theorem Up.one {L : List Pr} (h : Up L) {p q : Pr} (hp : p ∈ L) (hq : q ∈ L) (e : p.k = q.k) : p = q := nodup_inj h.keys hp hq e
theorem mem_setL {L : List Pr} {p q : Pr} : q ∈ setL L p ↔ q = p ∨ (q ∈ L ∧ q.k ≠ p.k) := by
  unfold setL
  simp only [List.mem_append, List.mem_cons, List.mem_filter, decide_eq_true_eq]
  constructor
  · rintro (⟨h1, h2⟩ | rfl | ⟨h1, h2⟩)
    · exact .inr ⟨h1, fun e => by rw [e] at h2; exact List.lt_irrefl _ h2⟩
    · exact .inl rfl
    · exact .inr ⟨h1, fun e => by rw [e] at h2; exact List.lt_irrefl _ h2⟩
  · rintro (rfl | ⟨h1, h2⟩)
    · exact .inr (.inl rfl)
    · rcases tx_total q.k p.k with h | h | h
      · exact .inl ⟨h1, h⟩
      · exact absurd h h2
      · exact .inr (.inr ⟨h1, h⟩)
theorem mem_delL {L : List Pr} {k : Tx} {q : Pr} : q ∈ delL L k ↔ q ∈ L ∧ q.k ≠ k := by
  unfold delL
  simp [List.mem_filter]
theorem Up.del {L : List Pr} (h : Up L) (k : Tx) : Up (delL L k) := List.Pairwise.filter _ h
theorem Up.set {L : List Pr} (h : Up L) (p : Pr) : Up (setL L p) := by
  unfold setL Up
  rw [List.pairwise_append, List.pairwise_cons]
  refine ⟨List.Pairwise.filter _ h, ⟨fun q hq => ?_, List.Pairwise.filter _ h⟩, fun a ha b hb => ?_⟩
  · simpa using (List.mem_filter.1 hq).2
  · have h1 : a.k < p.k := by simpa using (List.mem_filter.1 ha).2
    rcases List.mem_cons.1 hb with rfl | hb
    · exact h1
    · have h2 : p.k < b.k := by simpa using (List.mem_filter.1 hb).2
      exact List.lt_trans h1 h2
theorem getL_none {L : List Pr} {k : Tx} : getL L k = none ↔ ∀ p ∈ L, p.k ≠ k := by
  unfold getL
  rw [List.find?_eq_none]
  simp only [decide_eq_true_eq]
  exact ⟨fun h p hp e => h p hp e.symm, fun h p hp e => h p hp e.symm⟩
theorem getL_some {L : List Pr} (h : Up L) {k : Tx} {p : Pr} : getL L k = some p ↔ p ∈ L ∧ p.k = k := by
  constructor
  · intro e
    have h1 := List.mem_of_find?_eq_some e
    have h2 := List.find?_some e
    exact ⟨h1, by simpa using Eq.symm (by simpa using h2)⟩
  · rintro ⟨h1, h2⟩
    cases e : getL L k with
    | none => exact absurd h2 (getL_none.1 e p h1)
    | some q =>
      have h3 := List.mem_of_find?_eq_some e
      have h4 : k = q.k := by simpa using List.find?_some e
      rw [h.one h3 h1 (by rw [h2]; exact h4.symm)]
theorem getL_perm {l L : List Pr} (hp : l.Perm L) (hn : Up L) (k : Tx) : getL l k = getL L k := by
  have hnl : (l.map Pr.k).Nodup := (hp.map Pr.k).nodup_iff.2 hn.keys
  cases e : getL L k with
  | none =>
    rw [getL_none] at e ⊢
    exact fun p h => e p (hp.mem_iff.1 h)
  | some q =>
    obtain ⟨h1, h2⟩ := (getL_some hn).1 e
    cases e2 : getL l k with
    | none => exact absurd h2 (getL_none.1 e2 q (hp.mem_iff.2 h1))
    | some r =>
      have h3 := List.mem_of_find?_eq_some e2
      have h4 : k = r.k := by simpa using List.find?_some e2
      rw [nodup_inj hnl h3 (hp.mem_iff.2 h1) (by rw [h2]; exact h4.symm)]
/-- Set back. -/
theorem set_del {L : List Pr} (h : Up L) {k v : Tx} (e : getL L k = none) : delL (setL L ⟨k, v⟩) k = L := by
  refine ((h.set _).del _).ext h fun p => ?_
  rw [mem_delL, mem_setL]
  rw [getL_none] at e
  constructor
  · rintro ⟨rfl | ⟨h1, _⟩, h2⟩
    · exact absurd rfl h2
    · exact h1
  · exact fun hp => ⟨.inr ⟨hp, e p hp⟩, e p hp⟩
theorem set_set {L : List Pr} (h : Up L) {k v w : Tx} (e : getL L k = some ⟨k, w⟩) : setL (setL L ⟨k, v⟩) ⟨k, w⟩ = L := by
  refine ((h.set _).set _).ext h fun p => ?_
  obtain ⟨h1, -⟩ := (getL_some h).1 e
  simp only [mem_setL]
  constructor
  · rintro (rfl | ⟨rfl | ⟨h2, _⟩, h3⟩)
    · exact h1
    · exact absurd rfl h3
    · exact h2
  · intro hp
    by_cases hk : p.k = k
    · exact .inl (h.one hp h1 hk)
    · exact .inr ⟨.inr ⟨hp, hk⟩, hk⟩
theorem get_set {L : List Pr} (h : Up L) (p : Pr) : getL (setL L p) p.k = some p := (getL_some (h.set p)).2 ⟨mem_setL.2 (.inl rfl), rfl⟩
/-! ### memory's map -/
def Pr.pr (p : Pr) : Tx × Value := (p.k, skey p.v)
abbrev MAt (h : PH) (m : Nat) (l : List Pr) : Prop := MapAt skey h m (l.map Pr.pr)
theorem getM_pr (l : List Pr) (k : Tx) : getM (l.map Pr.pr) k = (getL l k).map fun p => skey p.v := by
  unfold getM getL
  rw [List.find?_map, Option.map_map]
  rfl
theorem del_pr (l : List Pr) (k : Tx) : delM (l.map Pr.pr) k = (delL l k).map Pr.pr := by
  unfold delM delL
  rw [List.filter_map]; rfl
theorem keys_pr (l : List Pr) : keysM (l.map Pr.pr) = l.map Pr.k := by unfold keysM; rw [List.map_map]; rfl
theorem put_perm {l L : List Pr} (hp : l.Perm L) (hs : Up L) (p : Pr) : ∃ l' : List Pr, putM (l.map Pr.pr) p.k (skey p.v) = l'.map Pr.pr ∧ l'.Perm (setL L p) := by
  have hnl : (l.map Pr.k).Nodup := (hp.map Pr.k).nodup_iff.2 hs.keys
  have hnd : l.Nodup := nodup_of_map Pr.k hnl
  unfold putM
  rw [keys_pr]
  split
  · rename_i hm
    refine ⟨l.map fun q => if q.k = p.k then p else q, ?_, ?_⟩
    · rw [List.map_map, List.map_map]
      apply List.map_congr_left
      intro x _
      show (if x.k = p.k then (p.k, skey p.v) else (x.k, skey x.v)) = Pr.pr (if x.k = p.k then p else x)
      by_cases hc : x.k = p.k
      · rw [if_pos hc, if_pos hc]; rfl
      · rw [if_neg hc, if_neg hc]; rfl
    · have hk : (l.map fun q => if q.k = p.k then p else q).map Pr.k = l.map Pr.k := by
        rw [List.map_map]
        apply List.map_congr_left
        intro x _
        show (if x.k = p.k then p else x).k = x.k
        split
        · rename_i e; exact e.symm
        · rfl
      have hn2 : (l.map fun q => if q.k = p.k then p else q).Nodup := nodup_of_map Pr.k (by rw [hk]; exact hnl)
      refine (List.perm_ext_iff_of_nodup hn2 (hs.set p).irr).2 fun q => ?_
      rw [mem_setL, List.mem_map]
      constructor
      · rintro ⟨x, hx, e⟩
        by_cases hc : x.k = p.k
        · rw [if_pos hc] at e; exact .inl e.symm
        · rw [if_neg hc] at e; subst e; exact .inr ⟨hp.mem_iff.1 hx, hc⟩
      · rintro (rfl | ⟨h1, h2⟩)
        · obtain ⟨x, hx, e⟩ := List.mem_map.1 hm
          exact ⟨x, hx, by rw [if_pos e]⟩
        · exact ⟨q, hp.mem_iff.2 h1, by rw [if_neg h2]⟩
  · rename_i hm
    refine ⟨l ++ [p], by rw [List.map_append]; rfl, ?_⟩
    have hno : ∀ x ∈ l, x.k ≠ p.k := fun x hx e => hm (by rw [← e]; exact List.mem_map_of_mem hx)
    have hn2 : (l ++ [p]).Nodup := by
      rw [List.nodup_append]
      refine ⟨hnd, by simp, fun a ha b hb e => ?_⟩
      simp only [List.mem_singleton] at hb
      subst hb; subst e
      exact hno _ ha rfl
    refine (List.perm_ext_iff_of_nodup hn2 (hs.set p).irr).2 fun q => ?_
    rw [mem_setL, List.mem_append, List.mem_singleton]
    constructor
    · rintro (h1 | rfl)
      · exact .inr ⟨hp.mem_iff.1 h1, hno q h1⟩
      · exact .inl rfl
    · rintro (rfl | ⟨h1, h2⟩)
      · exact .inr rfl
      · exact .inl (hp.mem_iff.2 h1)
theorem look_eq {h : PH} {m : Nat} {l : List Pr} (hm : MAt h m l) (k : Tx) : SemE PG h (Instr.lookup T_map_string_string (.map (some m)) (.string (tx k)) true) = some (.tuple #[.string (tx (((getL l k).map Pr.v).getD [])), .bool (getL l k).isSome]) := by
  have := look_found skeyed T_map_string_string.und T_string.info T_string.zero hm k true
  rw [getM_pr] at this
  rw [show (.string (tx k) : Value) = skey k from rfl, this]
  cases getL l k <;> rfl
/-! ### the plain store -/
structure St where
  now : List Pr
  blocks : List (List Pr)
  height : Nat
def sSet (s : St) (k v : Tx) : St × Int :=
  if k.length < 1 ∨ 16 < k.length ∨ 64 < v.length then (s, 1) else if getL s.now k = none ∧ 4096 ≤ s.now.length then (s, 2) else ({ s with now := setL s.now ⟨k, v⟩ }, 0)
def sDel (s : St) (k : Tx) : St × Int := if getL s.now k = none then (s, 3) else ({ s with now := delL s.now k }, 0)
def sCom (s : St) : St × (Nat × Int) :=
  if s.height = 18446744073709551615 then (s, (0, 12)) else if 4096 ≤ s.blocks.length then (s, (0, 2)) else ({ s with blocks := s.blocks ++ [s.now], height := s.height + 1 }, (s.height + 1, 0))
def sAt (s : St) (x : Nat) : Option (List Pr) := if s.height < x ∨ s.blocks.length ≤ s.height - x then none else s.blocks[s.blocks.length - 1 - (s.height - x)]?
structure St.Ok (s : St) : Prop where
  up : Up s.now
  fit : ∀ p ∈ s.now, Fit p
  few : s.now.length ≤ 4096
  blk : ∀ b ∈ s.blocks, Up b ∧ (∀ p ∈ b, Fit p) ∧ b.length ≤ 4096
  h1 : 1 ≤ s.blocks.length
  h2 : s.blocks.length ≤ 4096
  h3 : s.blocks.length - 1 ≤ s.height
  h4 : s.height < 18446744073709551616
end Go.Proofs.YtllopddcpkhfjaaGreatDoor
/- store: its functions, as rules for their calls. -/
set_option linter.unusedSimpArgs false
set_option linter.unusedVariables false
namespace Go.Proofs.YtllopddcpkhfjaaGreatDoor
open Go Bld
set_option maxRecDepth 20000
def brow (x : Value × List Pr) : List Value := [x.1, .string (tx (rootP x.2))]
theorem brow.rows (l : List (Value × List Pr)) : Rows 2 (l.map brow) := fun r hr => by
  obtain ⟨p, -, rfl⟩ := List.mem_map.1 hr; rfl
structure StAt (h : PH) (a : Nat) (s : St) (F : List Nat) : Prop where
  here : ∃ (m : Nat) (l : List Pr) (v : Value) (bl : List (Value × List Pr)) (Fb G : List Nat), h a = some (.cells #[.map (some m), v, .int .u64 s.height] T_store_Store (0, 0)) ∧ MAt h m l ∧ l.Perm s.now ∧ OwnR h T_store_block 2 v (bl.map brow) Fb ∧ (∀ x ∈ bl, SlR h 2 x.1 (x.2.map Pr.cells) ∧ inBlocks x.1 G) ∧
    bl.map (·.2) = s.blocks ∧ F = a :: m :: (Fb ++ G) ∧ a ≠ m ∧ a ∉ Fb ∧ m ∉ Fb ∧ ∀ g ∈ G, g ≠ a ∧ g ≠ m ∧ g ∉ Fb ∧ h g ≠ none
  ok : s.Ok
theorem StAt.upd {h h' : PH} {a : Nat} {s : St} {F K : List Nat} (H : StAt h a s F) (u : Upd K h h') (hd : ∀ b ∈ F, b ∉ K) : StAt h' a s F := by
  obtain ⟨m, l, v, bl, Fb, G, h1, h2, h3, h4, h5, h6, rfl, h8, h9, h10, h11⟩ := H.here
  refine ⟨⟨m, l, v, bl, Fb, G, u.get h1 (hd _ (by simp)), MapAt.upd h2 u (hd _ (by simp)), h3, h4.upd u (fun b hb => hd b (by simp [hb])), fun x hx => ⟨(h5 x hx).1.upd u fun y n c e => hd _ ?_, (h5 x hx).2⟩, h6, rfl, h8, h9, h10, fun g hg => ⟨(h11 g hg).1, (h11 g hg).2.1, (h11 g hg).2.2.1, ?_⟩⟩, H.ok⟩
  · have := (h5 x hx).2 y n c e
    simp [this]
  · have := (h11 g hg).2.2.2
    obtain ⟨o, ho⟩ := Option.ne_none_iff_exists'.1 this
    rw [u.get ho (hd g (by simp [hg]))]; simp
theorem StAt.ext {h h' : PH} {a : Nat} {s : St} {F : List Nat} (H : StAt h a s F) (u : Ext h h') : StAt h' a s F := H.upd u (by simp)
theorem StAt.known {h : PH} {a : Nat} {s : St} {F : List Nat} (H : StAt h a s F) : ∀ b ∈ F, h b ≠ none := by
  obtain ⟨m, l, v, bl, Fb, G, h1, h2, h3, h4, h5, h6, rfl, h8, h9, h10, h11⟩ := H.here
  intro b hb
  simp only [List.mem_cons, List.mem_append] at hb
  rcases hb with rfl | rfl | hb | hb
  · rw [h1]; simp
  · exact MapAt.known h2
  · exact h4.known b hb
  · exact (h11 b hb).2.2.2
theorem St.Ok.new (n : Nat) (hn : n < 18446744073709551616) : St.Ok ⟨[], [[]], n⟩ := ⟨List.Pairwise.nil, by simp, by simp, by simp [Up], by simp, by simp, by simp, hn⟩
theorem StNew_ok {h : PH} (n : Nat) (hn : n < 18446744073709551616) (hK : KAt h) {k : Value → PH → Prop} (hk : ∀ a h' F, StAt h' a ⟨[], [[]], n⟩ F → Fresh h F → Ext h h' → k (.pointer (some ⟨a, 0, none⟩)) h') : CallsH PG id_store_New #[.int .u64 (n : Int)] h k := by
  apply store_New.call
  unfold store_New
  simp only [makeMap_eq, popO_some, bindH_eq, condV_bool, condV_true, condV_false, yV_bool, gopV_tt, gopV_ff, gopV_tf, gopV_ft, pickV_t, pickV_f, pickV_bool, nilS_ptr, add_eq, sub_eq, mul_eq, lss_eq, leq_eq, gtr_eq, geq_eq, not_eq, minI_eq, maxI_eq, extract_0, extract_1, extract_2, eqlI, neqI, makeFunc_eq, decide_true, decide_false, if_true, if_false, Bool.false_eq_true, Bool.not_true, Bool.not_false, reduceIte, List.getElem?_toArray, List.getElem?_cons_zero, List.getElem?_cons_succ, Option.isSome_none, List.length_map]
  intro m hm
  refine popO_pure ?_
  try rw [bindH_eq]
  have u1 : Ext h (h.set m (.map #[] 0)) := Upd.new hm
  have m1 : MAt (h.set m (.map #[] 0)) m [] := MapAt.new
  generalize h.set m (.map #[] 0) = h1 at *
  refine Root_ok (l := []) (by decide) (hK.ext u1) (OwnR.nil (e := T_api_Pair)).slR (fun p hp => by cases hp) fun h2 u2 => ?_
  have b1 : ∀ d : ByteArray, SemP PG (Instr.build T_store_block #[(1, .string d)]) = some (.agg #[.slice none 0 0, .string d]) := fun d => by kernel_rfl
  have b2 : ∀ d : ByteArray, SemA PG (Instr.buildSlice T_sl_store_block 1 #[(0, .agg #[.slice none 0 0, .string d])]) = some (.cells #[.slice none 0 0, .string d] T_store_block, fun r => pure (.slice (some ⟨r, 0, none⟩) 1 1)) := fun d => by kernel_rfl
  simp only [b1, b2, popO_some, bindH_eq, condV_bool, condV_true, condV_false, yV_bool, gopV_tt, gopV_ff, gopV_tf, gopV_ft, pickV_t, pickV_f, pickV_bool, nilS_ptr, add_eq, sub_eq, mul_eq, lss_eq, leq_eq, gtr_eq, geq_eq, not_eq, minI_eq, maxI_eq, extract_0, extract_1, extract_2, eqlI, neqI, makeFunc_eq, decide_true, decide_false, if_true, if_false, Bool.false_eq_true, Bool.not_true, Bool.not_false, reduceIte, List.getElem?_toArray, List.getElem?_cons_zero, List.getElem?_cons_succ, Option.isSome_none, List.length_map]
  intro r hr
  refine popO_pure ?_
  try rw [bindH_eq]
  have u3 : Ext h2 (h2.set r (.cells #[.slice none 0 0, .string (tx (rootP []))] T_store_block)) := Upd.new hr
  have O3 : OwnR (h2.set r (.cells #[.slice none 0 0, .string (tx (rootP []))] T_store_block)) T_store_block 2 (.slice (some ⟨r, 0, none⟩) 1 1) ([((.slice none 0 0 : Value), ([] : List Pr))].map brow) [r] := OwnR.lit (n := 1) (brow.rows [((.slice none 0 0 : Value), ([] : List Pr))]) set_same (by simp) (by decide) rfl
  generalize h2.set r (.cells #[.slice none 0 0, .string (tx (rootP []))] T_store_block) = h3 at *
  have b3 : SemP PG (Instr.build T_store_Store #[(0, .map (some m)), (1, .slice (some ⟨r, 0, none⟩) 1 1), (2, .int .u64 (n : Int))]) = some (.agg #[.map (some m), .slice (some ⟨r, 0, none⟩) 1 1, .int .u64 (n : Int)]) := by kernel_rfl
  simp only [b3, popO_some, bindH_eq, condV_bool, condV_true, condV_false, yV_bool, gopV_tt, gopV_ff, gopV_tf, gopV_ft, pickV_t, pickV_f, pickV_bool, nilS_ptr, add_eq, sub_eq, mul_eq, lss_eq, leq_eq, gtr_eq, geq_eq, not_eq, minI_eq, maxI_eq, extract_0, extract_1, extract_2, eqlI, neqI, makeFunc_eq, decide_true, decide_false, if_true, if_false, Bool.false_eq_true, Bool.not_true, Bool.not_false, reduceIte, List.getElem?_toArray, List.getElem?_cons_zero, List.getElem?_cons_succ, Option.isSome_none, List.length_map]
  intro a ha
  try rw [bindH_eq]
  have u4 : Ext h3 (h3.set a (.cells (Value.cells (.agg #[.map (some m), .slice (some ⟨r, 0, none⟩) 1 1, .int .u64 (n : Int)])) T_store_Store)) := Upd.new ha
  have m3 := MapAt.ext m1 (u2.trans u3)
  have hma : a ≠ m := by rintro rfl; exact MapAt.known m3 ha
  have har : a ≠ r := by rintro rfl; exact O3.known _ (by simp) ha
  have hmr : m ≠ r := by rintro rfl; exact MapAt.known (MapAt.ext m1 u2) hr
  refine hk a _ [a, m, r] ⟨⟨m, [], _, [(.slice none 0 0, [])], [r], [], set_same, MapAt.ext m3 u4, List.Perm.refl _, O3.ext u4, ?_, rfl, rfl, hma, by simpa using har, by simpa using hmr, by simp⟩, St.Ok.new n hn⟩ (fun b hb => ?_) (((u1.trans u2).trans u3).trans u4)
  · intro x hx
    simp only [List.mem_singleton] at hx
    subst hx
    exact ⟨(OwnR.nil (e := T_api_Pair)).slR, fun x n c e => by cases e⟩
  · simp only [List.mem_cons, List.not_mem_nil, or_false] at hb
    rcases hb with rfl | rfl | rfl
    · exact ((u1.trans u2).trans u3).none ha
    · exact hm
    · exact (u1.trans u2).none hr
theorem len_eq {h : PH} {m : Nat} {l L : List Pr} (hm : MAt h m l) (hp : l.Perm L) : SemE PG h (Builtin.len_ #[T_map_string_string] T_int #[.map (some m)]) = some (.int .i64 L.length) := by
  have lm := MapAt.len hm (t' := T_int) T_map_string_string.und
  rw [List.length_map, hp.length_eq] at lm
  exact lm
theorem St.Ok.setOk {s : St} (H : s.Ok) {k v : Tx} (hk : ¬ (k.length < 1 ∨ 16 < k.length ∨ 64 < v.length)) (hf : ¬ (getL s.now k = none ∧ 4096 ≤ s.now.length)) : St.Ok { s with now := setL s.now ⟨k, v⟩ } := by
  refine ⟨H.up.set _, fun p hp => ?_, ?_, H.blk, H.h1, H.h2, H.h3, H.h4⟩
  · rcases mem_setL.1 hp with rfl | ⟨h1, _⟩
    · refine ⟨?_, ?_, ?_⟩ <;> simp only <;> omega
    · exact H.fit p h1
  · have hle : (setL s.now ⟨k, v⟩).length ≤ s.now.length + (if getL s.now k = none then 1 else 0) := by
      have hn := (H.up.set ⟨k, v⟩).irr
      split
      · have := nodup_len (setL s.now ⟨k, v⟩) (⟨k, v⟩ :: s.now) hn fun p hp => by
          rcases mem_setL.1 hp with rfl | ⟨h1, _⟩
          · simp
          · simp [h1]
        simpa using this
      · rename_i hne
        obtain ⟨q, hq⟩ := Option.ne_none_iff_exists'.1 hne
        obtain ⟨q1, q2⟩ := (getL_some H.up).1 hq
        have := nodup_len (setL s.now ⟨k, v⟩) (⟨k, v⟩ :: s.now.erase q) hn fun p hp => by
          rcases mem_setL.1 hp with rfl | ⟨h1, h2⟩
          · simp
          · refine List.mem_cons_of_mem _ ?_
            rw [List.mem_erase_of_ne]
            · exact h1
            · rintro rfl; exact h2 q2
        rw [List.length_cons, List.length_erase_of_mem q1] at this
        have hpos : 0 < s.now.length := List.length_pos_of_mem q1
        omega
    have := H.few
    show (setL s.now ⟨k, v⟩).length ≤ 4096
    split at hle
    · rename_i e
      have : ¬ 4096 ≤ s.now.length := fun h => hf ⟨e, h⟩
      omega
    · omega
theorem Set_ok {h : PH} {a : Nat} {s : St} {F : List Nat} (H : StAt h a s F) (k v : Tx) {kk : Value → PH → Prop} (hk : ∀ h', StAt h' a (sSet s k v).1 F → Upd F h h' → kk (.int .i64 (sSet s k v).2) h') :
    CallsH PG id_store_Store_Set #[.pointer (some ⟨a, 0, none⟩), .string (tx k), .string (tx v)] h kk := by
  apply store_Store_Set.call
  unfold store_Store_Set
  have fin1 : (k.length < 1 ∨ 16 < k.length ∨ 64 < v.length) → kk (.int .i64 1) h := fun hb => by
    have := hk h (by unfold sSet; rw [if_pos hb]; exact H) Upd.refl
    unfold sSet at this
    rw [if_pos hb] at this
    exact this
  by_cases d1 : k.length < 1
  · have g1 : ((k.length : Int) < 1) = True := eq_true (by omega)
    simp only [T_string.len, tx_size, g1, popO_some, bindH_eq, condV_bool, condV_true, condV_false, yV_bool, gopV_tt, gopV_ff, gopV_tf, gopV_ft, pickV_t, pickV_f, pickV_bool, nilS_ptr, add_eq, sub_eq, mul_eq, lss_eq, leq_eq, gtr_eq, geq_eq, not_eq, minI_eq, maxI_eq, extract_0, extract_1, extract_2, eqlI, neqI, makeFunc_eq, decide_true, decide_false, if_true, if_false, Bool.false_eq_true, Bool.not_true, Bool.not_false, reduceIte, List.getElem?_toArray, List.getElem?_cons_zero, List.getElem?_cons_succ, Option.isSome_none, List.length_map]
    exact fin1 (.inl d1)
  have g1 : ((k.length : Int) < 1) = False := eq_false (by omega)
  by_cases d2 : 16 < k.length
  · have g2 : ((16 : Int) < (k.length : Int)) = True := eq_true (by omega)
    simp only [T_string.len, tx_size, g1, g2, popO_some, bindH_eq, condV_bool, condV_true, condV_false, yV_bool, gopV_tt, gopV_ff, gopV_tf, gopV_ft, pickV_t, pickV_f, pickV_bool, nilS_ptr, add_eq, sub_eq, mul_eq, lss_eq, leq_eq, gtr_eq, geq_eq, not_eq, minI_eq, maxI_eq, extract_0, extract_1, extract_2, eqlI, neqI, makeFunc_eq, decide_true, decide_false, if_true, if_false, Bool.false_eq_true, Bool.not_true, Bool.not_false, reduceIte, List.getElem?_toArray, List.getElem?_cons_zero, List.getElem?_cons_succ, Option.isSome_none, List.length_map]
    exact fin1 (.inr (.inl d2))
  have g2 : ((16 : Int) < (k.length : Int)) = False := eq_false (by omega)
  by_cases d3 : 64 < v.length
  · have g3 : ((64 : Int) < (v.length : Int)) = True := eq_true (by omega)
    simp only [T_string.len, tx_size, g1, g2, g3, popO_some, bindH_eq, condV_bool, condV_true, condV_false, yV_bool, gopV_tt, gopV_ff, gopV_tf, gopV_ft, pickV_t, pickV_f, pickV_bool, nilS_ptr, add_eq, sub_eq, mul_eq, lss_eq, leq_eq, gtr_eq, geq_eq, not_eq, minI_eq, maxI_eq, extract_0, extract_1, extract_2, eqlI, neqI, makeFunc_eq, decide_true, decide_false, if_true, if_false, Bool.false_eq_true, Bool.not_true, Bool.not_false, reduceIte, List.getElem?_toArray, List.getElem?_cons_zero, List.getElem?_cons_succ, Option.isSome_none, List.length_map]
    exact fin1 (.inr (.inr d3))
  have g3 : ((64 : Int) < (v.length : Int)) = False := eq_false (by omega)
  have hok := H.ok
  have hr : ¬ (k.length < 1 ∨ 16 < k.length ∨ 64 < v.length) := by omega
  have hH := H
  obtain ⟨m, l, vv, bl, Fb, G, ha, hm, hp, hO, hS, hbl, rfl, hn1, hn2, hn3, hG⟩ := H.here
  have c0 : cellH h ⟨a, 0, none⟩ = some (.map (some m)) := by simp [cellH, ha]
  have hg := getL_perm hp hok.up k
  have hl := len_eq hm hp
  have fin : ¬ (getL s.now k = none ∧ 4096 ≤ s.now.length) → SemH PG (mapUpdS T_map_string_string (.map (some m)) (.string (tx k)) (.string (tx v))) h fun v61 h62 => kk (.int .i64 0) h62 := fun hc => by
    refine map_put skeyed T_map_string_string.und hm k (.string (tx v)) fun h6 hm6 u6 => ?_
    obtain ⟨l', e1, e2⟩ := put_perm hp hok.up ⟨k, v⟩
    have e1' : putM (l.map Pr.pr) k (.string (tx v)) = l'.map Pr.pr := e1
    rw [e1'] at hm6
    have hs : sSet s k v = ({ s with now := setL s.now ⟨k, v⟩ }, 0) := by unfold sSet; rw [if_neg hr, if_neg hc]
    rw [hs] at hk
    refine hk h6 ⟨⟨m, l', vv, bl, Fb, G, u6.get ha (by simpa using hn1), hm6, e2, hO.upd u6 (fun b hb => by simp; rintro rfl; exact hn3 hb), fun x hx => ⟨(hS x hx).1.upd u6 fun y n c e => ?_, (hS x hx).2⟩, hbl, rfl, hn1, hn2, hn3, fun g hg => ⟨(hG g hg).1, (hG g hg).2.1, (hG g hg).2.2.1, ?_⟩⟩, hok.setOk hr hc⟩ (u6.mono fun b hb => .inl (by simp at hb; simp [hb]))
    · have := (hG _ ((hS x hx).2 y n c e)).2.1
      simpa using this
    · obtain ⟨o, ho⟩ := Option.ne_none_iff_exists'.1 (hG g hg).2.2.2
      rw [u6.get ho (by simpa using (hG g hg).2.1)]; simp
  cases eg : getL s.now k with
  | some q =>
    simp only [T_string.len, tx_size, g1, g2, g3, T_store_Store.f0, T_map_string_string.load, c0, look_eq hm, hg, eg, Option.isSome_some, popO_some, bindH_eq, condV_bool, condV_true, condV_false, yV_bool, gopV_tt, gopV_ff, gopV_tf, gopV_ft, pickV_t, pickV_f, pickV_bool, nilS_ptr, add_eq, sub_eq, mul_eq, lss_eq, leq_eq, gtr_eq, geq_eq, not_eq, minI_eq, maxI_eq, extract_0, extract_1, extract_2, eqlI, neqI, makeFunc_eq, decide_true, decide_false, if_true, if_false, Bool.false_eq_true, Bool.not_true, Bool.not_false, reduceIte, List.getElem?_toArray, List.getElem?_cons_zero, List.getElem?_cons_succ, Option.isSome_none, List.length_map]
    exact fin (by simp [eg])
  | none =>
    by_cases d4 : 4096 ≤ s.now.length
    · have g4 : ((4096 : Int) ≤ (s.now.length : Int)) = True := eq_true (by omega)
      simp only [T_string.len, tx_size, g1, g2, g3, T_store_Store.f0, T_map_string_string.load, c0, look_eq hm, hg, eg, hl, g4, Option.isSome_none, popO_some, bindH_eq, condV_bool, condV_true, condV_false, yV_bool, gopV_tt, gopV_ff, gopV_tf, gopV_ft, pickV_t, pickV_f, pickV_bool, nilS_ptr, add_eq, sub_eq, mul_eq, lss_eq, leq_eq, gtr_eq, geq_eq, not_eq, minI_eq, maxI_eq, extract_0, extract_1, extract_2, eqlI, neqI, makeFunc_eq, decide_true, decide_false, if_true, if_false, Bool.false_eq_true, Bool.not_true, Bool.not_false, reduceIte, List.getElem?_toArray, List.getElem?_cons_zero, List.getElem?_cons_succ, Option.isSome_none, List.length_map]
      have hs : sSet s k v = (s, 2) := by unfold sSet; rw [if_neg hr, if_pos ⟨eg, d4⟩]
      have := hk h (by rw [hs]; exact hH) Upd.refl
      rw [hs] at this
      exact this
    · have g4 : ((4096 : Int) ≤ (s.now.length : Int)) = False := eq_false (by omega)
      simp only [T_string.len, tx_size, g1, g2, g3, T_store_Store.f0, T_map_string_string.load, c0, look_eq hm, hg, eg, hl, g4, Option.isSome_none, popO_some, bindH_eq, condV_bool, condV_true, condV_false, yV_bool, gopV_tt, gopV_ff, gopV_tf, gopV_ft, pickV_t, pickV_f, pickV_bool, nilS_ptr, add_eq, sub_eq, mul_eq, lss_eq, leq_eq, gtr_eq, geq_eq, not_eq, minI_eq, maxI_eq, extract_0, extract_1, extract_2, eqlI, neqI, makeFunc_eq, decide_true, decide_false, if_true, if_false, Bool.false_eq_true, Bool.not_true, Bool.not_false, reduceIte, List.getElem?_toArray, List.getElem?_cons_zero, List.getElem?_cons_succ, Option.isSome_none, List.length_map]
      exact fin (fun h => d4 h.2)
theorem Delete_ok {h : PH} {a : Nat} {s : St} {F : List Nat} (H : StAt h a s F) (k : Tx) {kk : Value → PH → Prop} (hk : ∀ h', StAt h' a (sDel s k).1 F → Upd F h h' → kk (.int .i64 (sDel s k).2) h') :
    CallsH PG id_store_Store_Delete #[.pointer (some ⟨a, 0, none⟩), .string (tx k)] h kk := by
  apply store_Store_Delete.call
  unfold store_Store_Delete
  have hok := H.ok
  have hH := H
  obtain ⟨m, l, vv, bl, Fb, G, ha, hm, hp, hO, hS, hbl, rfl, hn1, hn2, hn3, hG⟩ := H.here
  have c0 : cellH h ⟨a, 0, none⟩ = some (.map (some m)) := by simp [cellH, ha]
  have hg := getL_perm hp hok.up k
  cases eg : getL s.now k with
  | none =>
    simp only [T_store_Store.f0, T_map_string_string.load, c0, look_eq hm, hg, eg, Option.isSome_none, popO_some, bindH_eq, condV_bool, condV_true, condV_false, yV_bool, gopV_tt, gopV_ff, gopV_tf, gopV_ft, pickV_t, pickV_f, pickV_bool, nilS_ptr, add_eq, sub_eq, mul_eq, lss_eq, leq_eq, gtr_eq, geq_eq, not_eq, minI_eq, maxI_eq, extract_0, extract_1, extract_2, eqlI, neqI, makeFunc_eq, decide_true, decide_false, if_true, if_false, Bool.false_eq_true, Bool.not_true, Bool.not_false, reduceIte, List.getElem?_toArray, List.getElem?_cons_zero, List.getElem?_cons_succ, Option.isSome_none, List.length_map]
    have hs : sDel s k = (s, 3) := by unfold sDel; rw [if_pos eg]
    have := hk h (by rw [hs]; exact hH) Upd.refl
    rw [hs] at this
    exact this
  | some q =>
    simp only [T_store_Store.f0, T_map_string_string.load, c0, look_eq hm, hg, eg, Option.isSome_some, popO_some, bindH_eq, condV_bool, condV_true, condV_false, yV_bool, gopV_tt, gopV_ff, gopV_tf, gopV_ft, pickV_t, pickV_f, pickV_bool, nilS_ptr, add_eq, sub_eq, mul_eq, lss_eq, leq_eq, gtr_eq, geq_eq, not_eq, minI_eq, maxI_eq, extract_0, extract_1, extract_2, eqlI, neqI, makeFunc_eq, decide_true, decide_false, if_true, if_false, Bool.false_eq_true, Bool.not_true, Bool.not_false, reduceIte, List.getElem?_toArray, List.getElem?_cons_zero, List.getElem?_cons_succ, Option.isSome_none, List.length_map]
    refine map_del skeyed T_map_string_string.und hm k rfl fun h6 hm6 u6 => ?_
    have hs : sDel s k = ({ s with now := delL s.now k }, 0) := by unfold sDel; rw [if_neg (by rw [eg]; simp)]
    rw [hs] at hk
    rw [del_pr] at hm6
    refine hk h6 ⟨⟨m, delL l k, vv, bl, Fb, G, u6.get ha (by simpa using hn1), hm6, hp.filter _, hO.upd u6 (fun b hb => by simp; rintro rfl; exact hn3 hb), fun x hx => ⟨(hS x hx).1.upd u6 fun y n c e => ?_, (hS x hx).2⟩, hbl, rfl, hn1, hn2, hn3, fun g hg => ⟨(hG g hg).1, (hG g hg).2.1, (hG g hg).2.2.1, ?_⟩⟩, ⟨hok.up.del _, fun p hp => hok.fit p (mem_delL.1 hp).1, Nat.le_trans (List.length_filter_le _ _) hok.few, hok.blk, hok.h1, hok.h2, hok.h3, hok.h4⟩⟩ (u6.mono fun b hb => .inl (by simp at hb; simp [hb]))
    · have := (hG _ ((hS x hx).2 y n c e)).2.1
      simpa using this
    · obtain ⟨o, ho⟩ := Option.ne_none_iff_exists'.1 (hG g hg).2.2.2
      rw [u6.get ho (by simpa using (hG g hg).2.1)]; simp
theorem Get_ok {h : PH} {a : Nat} {s : St} {F : List Nat} (H : StAt h a s F) (k : Tx) {kk : Value → PH → Prop} (hk : kk (.tuple #[.string (tx (((getL s.now k).map Pr.v).getD [])), .bool (getL s.now k).isSome]) h) :
    CallsH PG id_store_Store_Get #[.pointer (some ⟨a, 0, none⟩), .string (tx k)] h kk := by
  apply store_Store_Get.call
  unfold store_Store_Get
  obtain ⟨m, l, vv, bl, Fb, G, ha, hm, hp, hO, hS, hbl, rfl, hn1, hn2, hn3, hG⟩ := H.here
  have c0 : cellH h ⟨a, 0, none⟩ = some (.map (some m)) := by simp [cellH, ha]
  have hg := getL_perm hp H.ok.up k
  simp only [T_store_Store.f0, T_map_string_string.load, c0, look_eq hm, hg, popO_some, bindH_eq, condV_bool, condV_true, condV_false, yV_bool, gopV_tt, gopV_ff, gopV_tf, gopV_ft, pickV_t, pickV_f, pickV_bool, nilS_ptr, add_eq, sub_eq, mul_eq, lss_eq, leq_eq, gtr_eq, geq_eq, not_eq, minI_eq, maxI_eq, extract_0, extract_1, extract_2, eqlI, neqI, makeFunc_eq, decide_true, decide_false, if_true, if_false, Bool.false_eq_true, Bool.not_true, Bool.not_false, reduceIte, List.getElem?_toArray, List.getElem?_cons_zero, List.getElem?_cons_succ, Option.isSome_none, List.length_map]
  exact hk
theorem SLen_ok {h : PH} {a : Nat} {s : St} {F : List Nat} (H : StAt h a s F) {kk : Value → PH → Prop} (hk : kk (.int .i64 s.now.length) h) : CallsH PG id_store_Store_Len #[.pointer (some ⟨a, 0, none⟩)] h kk := by
  apply store_Store_Len.call
  unfold store_Store_Len
  obtain ⟨m, l, vv, bl, Fb, G, ha, hm, hp, hO, hS, hbl, rfl, hn1, hn2, hn3, hG⟩ := H.here
  have c0 : cellH h ⟨a, 0, none⟩ = some (.map (some m)) := by simp [cellH, ha]
  simp only [T_store_Store.f0, T_map_string_string.load, c0, len_eq hm hp, popO_some, bindH_eq, condV_bool, condV_true, condV_false, yV_bool, gopV_tt, gopV_ff, gopV_tf, gopV_ft, pickV_t, pickV_f, pickV_bool, nilS_ptr, add_eq, sub_eq, mul_eq, lss_eq, leq_eq, gtr_eq, geq_eq, not_eq, minI_eq, maxI_eq, extract_0, extract_1, extract_2, eqlI, neqI, makeFunc_eq, decide_true, decide_false, if_true, if_false, Bool.false_eq_true, Bool.not_true, Bool.not_false, reduceIte, List.getElem?_toArray, List.getElem?_cons_zero, List.getElem?_cons_succ, Option.isSome_none, List.length_map]
  exact hk
theorem Height_ok {h : PH} {a : Nat} {s : St} {F : List Nat} (H : StAt h a s F) {kk : Value → PH → Prop} (hk : kk (.int .u64 s.height) h) : CallsH PG id_store_Store_Height #[.pointer (some ⟨a, 0, none⟩)] h kk := by
  apply store_Store_Height.call
  unfold store_Store_Height
  obtain ⟨m, l, vv, bl, Fb, G, ha, -⟩ := H.here
  have c2 : cellH h ⟨a, 0 + 2, none⟩ = some (.int .u64 s.height) := by simp [cellH, ha]
  simp only [T_store_Store.f2, T_uint64.load, c2, popO_some, bindH_eq, condV_bool, condV_true, condV_false, yV_bool, gopV_tt, gopV_ff, gopV_tf, gopV_ft, pickV_t, pickV_f, pickV_bool, nilS_ptr, add_eq, sub_eq, mul_eq, lss_eq, leq_eq, gtr_eq, geq_eq, not_eq, minI_eq, maxI_eq, extract_0, extract_1, extract_2, eqlI, neqI, makeFunc_eq, decide_true, decide_false, if_true, if_false, Bool.false_eq_true, Bool.not_true, Bool.not_false, reduceIte, List.getElem?_toArray, List.getElem?_cons_zero, List.getElem?_cons_succ, Option.isSome_none, List.length_map]
  exact hk
theorem Blocks_ok {h : PH} {a : Nat} {s : St} {F : List Nat} (H : StAt h a s F) {kk : Value → PH → Prop} (hk : kk (.int .i64 s.blocks.length) h) : CallsH PG id_store_Store_Blocks #[.pointer (some ⟨a, 0, none⟩)] h kk := by
  apply store_Store_Blocks.call
  unfold store_Store_Blocks
  obtain ⟨m, l, vv, bl, Fb, G, ha, hm, hp, hO, hS, hbl, -⟩ := H.here
  have c1 : cellH h ⟨a, 0 + 1, none⟩ = some vv := by simp [cellH, ha]
  have lv := hO.slR.len (t' := T_int) T_sl_store_block.und
  rw [List.length_map, show bl.length = s.blocks.length by rw [← hbl, List.length_map]] at lv
  simp only [T_store_Store.f1, T_sl_store_block.load, c1, lv, popO_some, bindH_eq, condV_bool, condV_true, condV_false, yV_bool, gopV_tt, gopV_ff, gopV_tf, gopV_ft, pickV_t, pickV_f, pickV_bool, nilS_ptr, add_eq, sub_eq, mul_eq, lss_eq, leq_eq, gtr_eq, geq_eq, not_eq, minI_eq, maxI_eq, extract_0, extract_1, extract_2, eqlI, neqI, makeFunc_eq, decide_true, decide_false, if_true, if_false, Bool.false_eq_true, Bool.not_true, Bool.not_false, reduceIte, List.getElem?_toArray, List.getElem?_cons_zero, List.getElem?_cons_succ, Option.isSome_none, List.length_map]
  exact hk
end Go.Proofs.YtllopddcpkhfjaaGreatDoor
/- store: a block, its root, its map. -/
set_option linter.unusedSimpArgs false
set_option linter.unusedVariables false
namespace Go.Proofs.YtllopddcpkhfjaaGreatDoor
open Go Bld
set_option maxRecDepth 20000
theorem yV_undef : yV undef = none := (rfl)
theorem gopV_none {X : (Value → PH → Prop) → Prop} {h : PH} {kv : Value → PH → Prop} {w : Bool} : gopV none w X h kv = kv undef h := by simp [gopV]
def bval (v : Value) (d : Tx) : Value := .agg #[v, .string (tx d)]
theorem sAt_lt {s : St} {x : Nat} {b : List Pr} (h : sAt s x = some b) : ¬ (s.height < x ∨ s.blocks.length ≤ s.height - x) ∧ s.blocks[s.blocks.length - 1 - (s.height - x)]? = some b := by
  unfold sAt at h
  split at h
  · cases h
  · rename_i hn; exact ⟨hn, h⟩
theorem sAt_none {s : St} (hs : 1 ≤ s.blocks.length) {x : Nat} : sAt s x = none ↔ (s.height < x ∨ s.blocks.length ≤ s.height - x) := by
  unfold sAt
  split
  · simp [*]
  · rename_i hn
    simp only [hn, iff_false, ne_eq]
    intro h
    rw [List.getElem?_eq_none_iff] at h
    omega
theorem zbl : zcells PG T_store_block = #[.slice none 0 0, .string (tx [])] := by rw [T_store_block.zc]; rfl
theorem at_ok {h : PH} {a : Nat} {s : St} {F : List Nat} (H : StAt h a s F) (x : Nat) (hx : x < 18446744073709551616) {k : Value → PH → Prop} (hn : sAt s x = none → ∀ h', Ext h h' → k (.tuple #[bval (.slice none 0 0) [], .int .i64 3]) h')
    (hk : ∀ b v h', sAt s x = some b → SlR h' 2 v (b.map Pr.cells) → isCell v = true → Ext h h' → k (.tuple #[bval v (rootP b), .int .i64 0]) h') : CallsH PG id_store_Store_at #[.pointer (some ⟨a, 0, none⟩), .int .u64 (x : Int)] h k := by
  apply store_Store_at.call
  unfold store_Store_at
  rw [zbl]
  intro r1 hr1
  try rw [bindH_eq]
  have u1 : Ext h (h.set r1 (.cells #[.slice none 0 0, .string (tx [])] T_store_block)) := Upd.new hr1
  have a1 : (h.set r1 (.cells #[.slice none 0 0, .string (tx [])] T_store_block)) r1 = some (.cells #[.slice none 0 0, .string (tx [])] T_store_block (0, 0)) := set_same
  generalize h.set r1 (.cells #[.slice none 0 0, .string (tx [])] T_store_block) = h1 at *
  have H1 := H.ext u1
  have hok := H.ok
  obtain ⟨m, l, vv, bl, Fb, G, ha, hm, hp, hO, hS, hbl, rfl, hn1, hn2, hn3, hG⟩ := H1.here
  have c1 : cellH h1 ⟨a, 0 + 1, none⟩ = some vv := by simp [cellH, ha]
  have c2 : cellH h1 ⟨a, 0 + 2, none⟩ = some (.int .u64 s.height) := by simp [cellH, ha]
  have hbn : bl.length = s.blocks.length := by rw [← hbl, List.length_map]
  have lv := hO.slR.len (t' := T_int) T_sl_store_block.und
  rw [List.length_map, hbn] at lv
  have h3 := hok.h3
  have h4 := hok.h4
  have h2 := hok.h2
  have h1' := hok.h1
  have ew : IntKind.u64.wrap ((s.blocks.length : Nat) : Int) = ((s.blocks.length : Nat) : Int) := u64_wrap (by omega) (by omega)
  have bz : SemP PG (Instr.build T_store_block #[]) = some (.agg #[.slice none 0 0, .string (tx [])]) := by kernel_rfl
  have bad : sAt s x = none → SemH PG (storeS T_store_block (.pointer (some ⟨r1, 0, none⟩)) (.agg #[.slice none 0 0, .string (tx [])])) h1 fun _ h44 => popO (SemE PG h44 (Instr.loadAt T_store_block (Value.pointer (some ⟨r1, 0, none⟩)))) fun v45 => k (Value.tuple #[v45, (Value.int IntKind.i64 3)]) h44 := fun hs => by
    refine store_box a1 T_store_block.info rfl (by simp) rfl (by simp [isCell]) ?_
    have l1 := T_store_block.loadAgg (h := h1.set r1 (.cells #[.slice none 0 0, .string (tx [])] T_store_block (0, 0))) (b := r1) (o := 0) set_same (by simp)
    simp only [l1, popO_some, bindH_eq, condV_bool, condV_true, condV_false, yV_bool, gopV_tt, gopV_ff, gopV_tf, gopV_ft, pickV_t, pickV_f, pickV_bool, nilS_ptr, add_eq, sub_eq, mul_eq, lss_eq, leq_eq, gtr_eq, geq_eq, not_eq, minI_eq, maxI_eq, extract_0, extract_1, extract_2, eqlI, neqI, makeFunc_eq, decide_true, decide_false, if_true, if_false, Bool.false_eq_true, Bool.not_true, Bool.not_false, reduceIte, List.getElem?_toArray, List.getElem?_cons_zero, List.getElem?_cons_succ, Option.isSome_none, List.length_map]
    exact hn hs _ (u1.fresh (Upd.set (F := [r1]) (by simp)) (Fresh.one hr1))
  by_cases d1 : s.height < x
  · have g1 : ((s.height : Int) < (x : Int)) = True := eq_true (by omega)
    simp only [T_store_Store.f2, T_uint64.load, c2, g1, bz, popO_some, bindH_eq, condV_bool, condV_true, condV_false, yV_bool, gopV_tt, gopV_ff, gopV_tf, gopV_ft, pickV_t, pickV_f, pickV_bool, nilS_ptr, add_eq, sub_eq, mul_eq, lss_eq, leq_eq, gtr_eq, geq_eq, not_eq, minI_eq, maxI_eq, extract_0, extract_1, extract_2, eqlI, neqI, makeFunc_eq, decide_true, decide_false, if_true, if_false, Bool.false_eq_true, Bool.not_true, Bool.not_false, reduceIte, List.getElem?_toArray, List.getElem?_cons_zero, List.getElem?_cons_succ, Option.isSome_none, List.length_map]
    exact bad ((sAt_none h1').2 (.inl d1))
  have g1 : ((s.height : Int) < (x : Int)) = False := eq_false (by omega)
  have e1 : IntKind.u64.wrap ((s.height : Int) - (x : Int)) = ((s.height - x : Nat) : Int) := by rw [u64_wrap (by omega) (by omega)]; omega
  by_cases d2 : s.blocks.length ≤ s.height - x
  · have g2 : (((s.blocks.length : Nat) : Int) ≤ ((s.height - x : Nat) : Int)) = True := eq_true (by omega)
    simp only [T_store_Store.f2, T_store_Store.f1, T_uint64.load, T_sl_store_block.load, c1, c2, g1, e1, lv, cv_int_u64, ew, g2, bz, popO_some, bindH_eq, condV_bool, condV_true, condV_false, yV_bool, gopV_tt, gopV_ff, gopV_tf, gopV_ft, pickV_t, pickV_f, pickV_bool, nilS_ptr, add_eq, sub_eq, mul_eq, lss_eq, leq_eq, gtr_eq, geq_eq, not_eq, minI_eq, maxI_eq, extract_0, extract_1, extract_2, eqlI, neqI, makeFunc_eq, decide_true, decide_false, if_true, if_false, Bool.false_eq_true, Bool.not_true, Bool.not_false, reduceIte, List.getElem?_toArray, List.getElem?_cons_zero, List.getElem?_cons_succ, Option.isSome_none, List.length_map]
    exact bad ((sAt_none h1').2 (.inr d2))
  have g2 : (((s.blocks.length : Nat) : Int) ≤ ((s.height - x : Nat) : Int)) = False := eq_false (by omega)
  have e2 : IntKind.u64.wrap (((s.blocks.length : Nat) : Int) - 1) = ((s.blocks.length - 1 : Nat) : Int) := by rw [u64_wrap (by omega) (by omega)]; omega
  have e3 : IntKind.u64.wrap (((s.blocks.length - 1 : Nat) : Int) - ((s.height - x : Nat) : Int)) = ((s.blocks.length - 1 - (s.height - x) : Nat) : Int) := by rw [u64_wrap (by omega) (by omega)]; omega
  obtain ⟨j, hj⟩ : ∃ j, j = s.blocks.length - 1 - (s.height - x) := ⟨_, rfl⟩
  rw [← hj] at e3
  have hjl : j < bl.length := by omega
  have hrow : (bl.map brow)[((j : Nat) : Int).toNat]? = some (brow bl[j]) := by rw [Int.toNat_natCast, List.getElem?_map, List.getElem?_eq_getElem hjl]; rfl
  obtain ⟨pa, hpa, hload⟩ := hO.slR.loadAgg (t := T_sl_store_block) (k := .u64) (j := ((j : Nat) : Int)) T_sl_store_block.und T_store_block.info T_store_block.size T_store_block.und rfl (by omega) hrow
  have hmem : bl[j] ∈ bl := List.getElem_mem hjl
  have hsat : sAt s x = some (bl[j]).2 := by
    unfold sAt
    rw [if_neg (by omega), ← hj, ← hbl, List.getElem?_map, List.getElem?_eq_getElem hjl]; rfl
  obtain ⟨hs1, hs2⟩ := hS _ hmem
  generalize bl[j] = y at *
  have hyc : isCell y.1 = true := by obtain ⟨_, _, e, _⟩ := hs1.here; rw [e]; rfl
  simp only [T_store_Store.f2, T_store_Store.f1, T_uint64.load, T_sl_store_block.load, c1, c2, g1, e1, lv, cv_int_u64, ew, g2, e2, e3, hpa, hload, popO_some, bindH_eq, condV_bool, condV_true, condV_false, yV_bool, gopV_tt, gopV_ff, gopV_tf, gopV_ft, pickV_t, pickV_f, pickV_bool, nilS_ptr, add_eq, sub_eq, mul_eq, lss_eq, leq_eq, gtr_eq, geq_eq, not_eq, minI_eq, maxI_eq, extract_0, extract_1, extract_2, eqlI, neqI, makeFunc_eq, decide_true, decide_false, if_true, if_false, Bool.false_eq_true, Bool.not_true, Bool.not_false, reduceIte, List.getElem?_toArray, List.getElem?_cons_zero, List.getElem?_cons_succ, Option.isSome_none, List.length_map]
  refine store_box a1 T_store_block.info rfl (by simp [brow]) rfl ?_ ?_
  · intro v hv
    simp only [brow, List.mem_cons, List.not_mem_nil, or_false] at hv
    rcases hv with rfl | rfl
    · exact hyc
    · rfl
  · have ub : Ext h1 h1 := Upd.refl
    have u2 : Ext h (h1.set r1 (.cells (brow y).toArray T_store_block (0, 0))) := u1.fresh (Upd.set (F := [r1]) (by simp)) (Fresh.one hr1)
    have l1 := T_store_block.loadAgg (h := h1.set r1 (.cells (brow y).toArray T_store_block (0, 0))) (b := r1) (o := 0) set_same (by simp [brow])
    have le : ((brow y).toArray).extract 0 (0 + 2) = (brow y).toArray := rfl
    rw [le] at l1
    simp only [l1, popO_some, bindH_eq, condV_bool, condV_true, condV_false, yV_bool, gopV_tt, gopV_ff, gopV_tf, gopV_ft, pickV_t, pickV_f, pickV_bool, nilS_ptr, add_eq, sub_eq, mul_eq, lss_eq, leq_eq, gtr_eq, geq_eq, not_eq, minI_eq, maxI_eq, extract_0, extract_1, extract_2, eqlI, neqI, makeFunc_eq, decide_true, decide_false, if_true, if_false, Bool.false_eq_true, Bool.not_true, Bool.not_false, reduceIte, List.getElem?_toArray, List.getElem?_cons_zero, List.getElem?_cons_succ, Option.isSome_none, List.length_map]
    refine hk y.2 y.1 _ hsat ?_ hyc u2
    refine hs1.upd (Upd.set (F := [r1]) (by simp)) fun z n c e => ?_
    have := hs2 z n c e
    intro hm
    simp only [List.mem_singleton] at hm
    have hkn := H.known z.block (by simp [this])
    rw [hm] at hkn
    exact hkn hr1
theorem StRoot_ok {h : PH} {a : Nat} {s : St} {F : List Nat} (H : StAt h a s F) (x : Nat) (hx : x < 18446744073709551616) {k : Value → PH → Prop} (hn : sAt s x = none → ∀ h', Ext h h' → k (.tuple #[.string (tx []), .int .i64 3]) h')
    (hk : ∀ b h', sAt s x = some b → Ext h h' → k (.tuple #[.string (tx (rootP b)), .int .i64 0]) h') : CallsH PG id_store_Store_Root #[.pointer (some ⟨a, 0, none⟩), .int .u64 (x : Int)] h k := by
  apply store_Store_Root.call
  unfold store_Store_Root
  have key : ∀ (v : Value) (d : Tx) (e : Int) (h1 : PH), isCell v = true → (∀ h', Ext h1 h' → k (.tuple #[.string (tx d), .int .i64 e]) h') → ∀ r5, h1 r5 = none → bindH (PH.set h1 r5 (.cells (zcells PG T_store_block) T_store_block)) fun h6 =>
      SemH PG (storeS T_store_block (Value.pointer (some ⟨r5, 0, none⟩)) (bval v d)) h6 fun v7 h8 => popO (SemP PG (Instr.fieldAt T_store_block (Value.pointer (some ⟨r5, 0, none⟩)) 1)) fun v9 => popO (SemE PG h8 (Instr.loadAt T_string v9)) fun v10 => k (Value.tuple #[v10, .int .i64 e]) h8 := by
    intro v d e h1 hv hkk r hr
    try rw [bindH_eq]
    rw [zbl]
    refine store_box set_same T_store_block.info rfl (by simp) rfl ?_ ?_
    · intro y hy
      simp only [List.mem_cons, List.not_mem_nil, or_false] at hy
      rcases hy with rfl | rfl
      · exact hv
      · rfl
    · rw [set_set_same]
      have c1 : cellH (h1.set r (.cells #[v, .string (tx d)] T_store_block (0, 0))) ⟨r, 0 + 1, none⟩ = some (.string (tx d)) := by simp [cellH, set_same]
      simp only [T_store_block.f1, T_string.load, c1, popO_some, bindH_eq, condV_bool, condV_true, condV_false, yV_bool, gopV_tt, gopV_ff, gopV_tf, gopV_ft, pickV_t, pickV_f, pickV_bool, nilS_ptr, add_eq, sub_eq, mul_eq, lss_eq, leq_eq, gtr_eq, geq_eq, not_eq, minI_eq, maxI_eq, extract_0, extract_1, extract_2, eqlI, neqI, makeFunc_eq, decide_true, decide_false, if_true, if_false, Bool.false_eq_true, Bool.not_true, Bool.not_false, reduceIte, List.getElem?_toArray, List.getElem?_cons_zero, List.getElem?_cons_succ, Option.isSome_none, List.length_map]
      exact hkk _ (Upd.new hr)
  refine at_ok H x hx (fun hs h1 u1 => ?_) (fun b v h1 hs S hv u1 => ?_)
  · simp only [popO_some, bindH_eq, condV_bool, condV_true, condV_false, yV_bool, gopV_tt, gopV_ff, gopV_tf, gopV_ft, pickV_t, pickV_f, pickV_bool, nilS_ptr, add_eq, sub_eq, mul_eq, lss_eq, leq_eq, gtr_eq, geq_eq, not_eq, minI_eq, maxI_eq, extract_0, extract_1, extract_2, eqlI, neqI, makeFunc_eq, decide_true, decide_false, if_true, if_false, Bool.false_eq_true, Bool.not_true, Bool.not_false, reduceIte, List.getElem?_toArray, List.getElem?_cons_zero, List.getElem?_cons_succ, Option.isSome_none, List.length_map]
    exact key _ _ _ h1 rfl (fun h' u => hn hs _ (u1.trans u))
  · simp only [popO_some, bindH_eq, condV_bool, condV_true, condV_false, yV_bool, gopV_tt, gopV_ff, gopV_tf, gopV_ft, pickV_t, pickV_f, pickV_bool, nilS_ptr, add_eq, sub_eq, mul_eq, lss_eq, leq_eq, gtr_eq, geq_eq, not_eq, minI_eq, maxI_eq, extract_0, extract_1, extract_2, eqlI, neqI, makeFunc_eq, decide_true, decide_false, if_true, if_false, Bool.false_eq_true, Bool.not_true, Bool.not_false, reduceIte, List.getElem?_toArray, List.getElem?_cons_zero, List.getElem?_cons_succ, Option.isSome_none, List.length_map]
    exact key _ _ _ h1 hv (fun h' u => hk b _ hs (u1.trans u))
theorem Clone2_ok {h : PH} {v : Value} {l : List Pr} (S : SlR h 2 v (l.map Pr.cells)) (hl : l.length ≤ 1000000) {k : Value → PH → Prop} (hk : ∀ v' h' F, OwnR h' T_api_Pair 2 v' (l.map Pr.cells) F → Fresh h F → Ext h h' → k v' h') : CallsH PG id_slices_Clone_sl_api_Pair_api_Pair #[v] h k := by
  apply slices_Clone_sl_api_Pair_api_Pair.call
  unfold slices_Clone_sl_api_Pair_api_Pair
  have hS := S
  obtain ⟨va, c, hv, hc1, hc2, hc3, -⟩ := S.here
  rw [List.length_map] at hv
  subst hv
  cases va with
  | none =>
    have hnil : l.map Pr.cells = [] := by
      by_cases h0 : l.map Pr.cells = []
      · exact h0
      · obtain ⟨b, o, cs, e, fr, e1, _⟩ := hc3 h0
        cases e1
    have hl0 : l = [] := List.map_eq_nil_iff.1 hnil
    subst hl0
    simp only [eqlNil T_sl_api_Pair.und, Option.isNone_none, popO_some, bindH_eq, condV_bool, condV_true, condV_false, yV_bool, gopV_tt, gopV_ff, gopV_tf, gopV_ft, pickV_t, pickV_f, pickV_bool, nilS_ptr, add_eq, sub_eq, mul_eq, lss_eq, leq_eq, gtr_eq, geq_eq, not_eq, minI_eq, maxI_eq, extract_0, extract_1, extract_2, eqlI, neqI, makeFunc_eq, decide_true, decide_false, if_true, if_false, Bool.false_eq_true, Bool.not_true, Bool.not_false, reduceIte, List.getElem?_toArray, List.getElem?_cons_zero, List.getElem?_cons_succ, Option.isSome_none, List.length_map]
    exact hk _ _ [] OwnR.nil (fun b hb => by cases hb) Upd.refl
  | some va =>
    have b0 : SemA PG (Instr.buildSlice T_sl_api_Pair 0 #[]) = some (.cells #[] T_api_Pair, fun r => pure (.slice (some ⟨r, 0, none⟩) 0 0)) := by kernel_rfl
    simp only [eqlNil T_sl_api_Pair.und, Option.isNone_some, b0, popO_some, bindH_eq, condV_bool, condV_true, condV_false, yV_bool, gopV_tt, gopV_ff, gopV_tf, gopV_ft, pickV_t, pickV_f, pickV_bool, nilS_ptr, add_eq, sub_eq, mul_eq, lss_eq, leq_eq, gtr_eq, geq_eq, not_eq, minI_eq, maxI_eq, extract_0, extract_1, extract_2, eqlI, neqI, makeFunc_eq, decide_true, decide_false, if_true, if_false, Bool.false_eq_true, Bool.not_true, Bool.not_false, reduceIte, List.getElem?_toArray, List.getElem?_cons_zero, List.getElem?_cons_succ, Option.isSome_none, List.length_map]
    intro r hr
    refine popO_pure ?_
    try rw [bindH_eq]
    have u1 : Ext h (h.set r (.cells #[] T_api_Pair)) := Upd.new hr
    have O1 : OwnR (h.set r (.cells #[] T_api_Pair)) T_api_Pair 2 (.slice (some ⟨r, 0, none⟩) 0 0) (([] : List Pr).map Pr.cells) [r] := OwnR.lit (n := 0) (Pr.rows []) set_same (by simp) (by decide) rfl
    generalize h.set r (.cells #[] T_api_Pair) = h1 at *
    refine append_own T_sl_api_Pair.und T_sl_api_Pair.und T_api_Pair.info T_api_Pair.size T_api_Pair.bytes T_api_Pair.zero rfl (by decide) O1 (hS.ext u1) (Pr.isCell l) (by simp; omega) ?_
    intro v2 h2 F2 O2 u2 k2 _
    rw [List.map_nil, List.nil_append] at O2
    exact hk _ _ F2 O2 (fun b hb => by
      rcases k2 b hb with h1 | h1
      · simp only [List.mem_singleton] at h1
        subst h1; exact hr
      · exact u1.none h1) (u1.fresh u2 (Fresh.one hr))
theorem zso : zcells PG T_store_sorted = #[.slice none 0 0] := by rw [T_store_sorted.zc]; rfl
theorem At_ok {h : PH} {a : Nat} {s : St} {F : List Nat} (H : StAt h a s F) (x : Nat) (hx : x < 18446744073709551616) {k : Value → PH → Prop} (hn : sAt s x = none → ∀ v h' F', OwnR h' T_api_Pair 2 v (([] : List Pr).map Pr.cells) F' → Fresh h F' → Ext h h' → k (.tuple #[v, .int .i64 3]) h')
    (hk : ∀ b v h' F', sAt s x = some b → OwnR h' T_api_Pair 2 v (b.map Pr.cells) F' → Fresh h F' → Ext h h' → k (.tuple #[v, .int .i64 0]) h') : CallsH PG id_store_Store_At #[.pointer (some ⟨a, 0, none⟩), .int .u64 (x : Int)] h k := by
  apply store_Store_At.call
  unfold store_Store_At
  have hok := H.ok
  have key : ∀ (v : Value) (b : List Pr) (d : Tx) (e : Int) (h1 : PH), isCell v = true → SlR h1 2 v (b.map Pr.cells) → b.length ≤ 4096 → (∀ v' h' F', OwnR h' T_api_Pair 2 v' (b.map Pr.cells) F' → Fresh h1 F' → Ext h1 h' → k (.tuple #[v', .int .i64 e]) h') → ∀ r5, h1 r5 = none → bindH (PH.set h1 r5 (.cells (zcells PG T_store_block) T_store_block)) fun h6 =>
      SemH PG (storeS T_store_block (Value.pointer (some ⟨r5, 0, none⟩)) (bval v d)) h6 fun v7 h8 =>  popO (SemP PG (Instr.fieldAt T_store_block (Value.pointer (some ⟨r5, 0, none⟩)) 0)) fun v9 => popO (SemE PG h8 (Instr.loadAt T_store_sorted v9)) fun v10 => CallsH PG id_store_sorted_pairs #[v10] h8 fun v11 h12 => k (Value.tuple #[v11, .int .i64 e]) h12 := by
    intro v b d e h1 hv S hbl hkk r hr
    try rw [bindH_eq]
    rw [zbl]
    refine store_box set_same T_store_block.info rfl (by simp) rfl ?_ ?_
    · intro y hy
      simp only [List.mem_cons, List.not_mem_nil, or_false] at hy
      rcases hy with rfl | rfl
      · exact hv
      · rfl
    · rw [set_set_same]
      have u2 : Ext h1 (h1.set r (.cells #[v, .string (tx d)] T_store_block (0, 0))) := Upd.new hr
      have a2 : (h1.set r (.cells #[v, .string (tx d)] T_store_block (0, 0))) r = some (.cells #[v, .string (tx d)] T_store_block (0, 0)) := set_same
      generalize h1.set r (.cells #[v, .string (tx d)] T_store_block (0, 0)) = h2 at *
      have l1 := T_store_sorted.loadAgg (o := 0) a2 (by simp)
      have le : (#[v, .string (tx d)] : Array Value).extract 0 (0 + 1) = #[v] := rfl
      rw [le] at l1
      simp only [T_store_block.f0, l1, popO_some, bindH_eq, condV_bool, condV_true, condV_false, yV_bool, gopV_tt, gopV_ff, gopV_tf, gopV_ft, pickV_t, pickV_f, pickV_bool, nilS_ptr, add_eq, sub_eq, mul_eq, lss_eq, leq_eq, gtr_eq, geq_eq, not_eq, minI_eq, maxI_eq, extract_0, extract_1, extract_2, eqlI, neqI, makeFunc_eq, decide_true, decide_false, if_true, if_false, Bool.false_eq_true, Bool.not_true, Bool.not_false, reduceIte, List.getElem?_toArray, List.getElem?_cons_zero, List.getElem?_cons_succ, Option.isSome_none, List.length_map]
      apply store_sorted_pairs.call
      unfold store_sorted_pairs
      intro r2 hr2
      try rw [bindH_eq]
      have ec : Value.cells (.agg #[v]) = #[v] := rfl
      rw [ec]
      have u3 : Ext h2 (h2.set r2 (.cells #[v] T_store_sorted)) := Upd.new hr2
      have a3 : (h2.set r2 (.cells #[v] T_store_sorted)) r2 = some (.cells #[v] T_store_sorted (0, 0)) := set_same
      generalize h2.set r2 (.cells #[v] T_store_sorted) = h3 at *
      have c0 : cellH h3 ⟨r2, 0, none⟩ = some v := by simp [cellH, a3]
      simp only [T_store_sorted.f0, T_sl_api_Pair.load, c0, popO_some, bindH_eq, condV_bool, condV_true, condV_false, yV_bool, gopV_tt, gopV_ff, gopV_tf, gopV_ft, pickV_t, pickV_f, pickV_bool, nilS_ptr, add_eq, sub_eq, mul_eq, lss_eq, leq_eq, gtr_eq, geq_eq, not_eq, minI_eq, maxI_eq, extract_0, extract_1, extract_2, eqlI, neqI, makeFunc_eq, decide_true, decide_false, if_true, if_false, Bool.false_eq_true, Bool.not_true, Bool.not_false, reduceIte, List.getElem?_toArray, List.getElem?_cons_zero, List.getElem?_cons_succ, Option.isSome_none, List.length_map]
      have u := u2.trans u3
      refine Clone2_ok (S.ext u) (by omega) fun v' h4 F4 O4 f4 u4 => ?_
      exact hkk v' h4 F4 O4 (f4.of u) (u.trans u4)
  refine at_ok H x hx (fun hs h1 u1 => ?_) (fun b v h1 hs S hv u1 => ?_)
  · simp only [popO_some, bindH_eq, condV_bool, condV_true, condV_false, yV_bool, gopV_tt, gopV_ff, gopV_tf, gopV_ft, pickV_t, pickV_f, pickV_bool, nilS_ptr, add_eq, sub_eq, mul_eq, lss_eq, leq_eq, gtr_eq, geq_eq, not_eq, minI_eq, maxI_eq, extract_0, extract_1, extract_2, eqlI, neqI, makeFunc_eq, decide_true, decide_false, if_true, if_false, Bool.false_eq_true, Bool.not_true, Bool.not_false, reduceIte, List.getElem?_toArray, List.getElem?_cons_zero, List.getElem?_cons_succ, Option.isSome_none, List.length_map]
    exact key _ [] _ _ h1 rfl (OwnR.nil (e := T_api_Pair)).slR (by decide) (fun v' h' F' O' f' u' => hn hs v' h' F' O' (f'.of u1) (u1.trans u'))
  · simp only [popO_some, bindH_eq, condV_bool, condV_true, condV_false, yV_bool, gopV_tt, gopV_ff, gopV_tf, gopV_ft, pickV_t, pickV_f, pickV_bool, nilS_ptr, add_eq, sub_eq, mul_eq, lss_eq, leq_eq, gtr_eq, geq_eq, not_eq, minI_eq, maxI_eq, extract_0, extract_1, extract_2, eqlI, neqI, makeFunc_eq, decide_true, decide_false, if_true, if_false, Bool.false_eq_true, Bool.not_true, Bool.not_false, reduceIte, List.getElem?_toArray, List.getElem?_cons_zero, List.getElem?_cons_succ, Option.isSome_none, List.length_map]
    have hb : b ∈ s.blocks := List.mem_of_getElem? (sAt_lt hs).2
    exact key _ b _ _ h1 hv S (hok.blk b hb).2.2 (fun v' h' F' O' f' u' => hk b v' h' F' hs O' (f'.of u1) (u1.trans u'))
end Go.Proofs.YtllopddcpkhfjaaGreatDoor
/- store: Commit. -/
set_option linter.unusedSimpArgs false
set_option linter.unusedVariables false
namespace Go.Proofs.YtllopddcpkhfjaaGreatDoor
open Go Bld
set_option maxRecDepth 20000
def unP (q : Tx × Value) : Pr := match q.2 with
  | Value.string t => ⟨q.1, t.data.toList⟩
  | _ => ⟨[], []⟩
theorem unP_pr (p : Pr) : unP p.pr = p := by
  obtain ⟨k, v⟩ := p
  simp [unP, Pr.pr, skey, tx]
theorem un_pr (l : List Pr) : (l.map Pr.pr).map unP = l := by
  rw [List.map_map]
  have : unP ∘ Pr.pr = id := by funext p; exact unP_pr p
  rw [this, List.map_id]
theorem perm_un {a b : List Pr} (h : (a.map Pr.pr).Perm (b.map Pr.pr)) : a.Perm b := by
  have := h.map unP
  rw [un_pr, un_pr] at this
  exact this
theorem Up.of {l L : List Pr} (hp : l.Perm L) (hs : Up L) (ho : l.Pairwise fun a b => ¬ b.k < a.k) : l = L := by
  have hk : (l.map Pr.k).Nodup := (hp.map Pr.k).nodup_iff.2 hs.keys
  have hu : Up l := by
    unfold List.Nodup at hk
    rw [List.pairwise_map] at hk
    have := ho.and hk
    refine List.Pairwise.imp (fun {a b} hab => ?_) this
    obtain ⟨h1, h2⟩ := hab
    rcases tx_total a.k b.k with h | h | h
    · exact h
    · exact absurd h h2
    · exact absurd h h1
  exact hu.ext hs fun p => hp.mem_iff
theorem pr_build (p : Pr) : SemP PG (Instr.build T_api_Pair #[(0, .string (tx p.k)), (1, .string (tx p.v))]) = some p.val := by kernel_rfl
theorem pr_lit (p : Pr) : SemA PG (Instr.buildSlice T_sl_api_Pair 1 #[(0, p.val)]) = some (.cells #[.string (tx p.k), .string (tx p.v)] T_api_Pair, fun r => pure (.slice (some ⟨r, 0, none⟩) 1 1)) := by kernel_rfl
theorem so_build (a : Option Addr) (n c : Nat) : SemP PG (Instr.build T_store_sorted #[(0, .slice a n c)]) = some (.agg #[.slice a n c]) := by kernel_rfl
theorem bl_build (a : Option Addr) (n c : Nat) (d : ByteArray) : SemP PG (Instr.build T_store_block #[(0, .agg #[.slice a n c]), (1, .string d)]) = some (.agg #[.slice a n c, .string d]) := by kernel_rfl
theorem bl_lit (a : Option Addr) (n c : Nat) (d : ByteArray) : SemA PG (Instr.buildSlice T_sl_store_block 1 #[(0, .agg #[.slice a n c, .string d])]) = some (.cells #[.slice a n c, .string d] T_store_block, fun r => pure (.slice (some ⟨r, 0, none⟩) 1 1)) := by kernel_rfl
theorem Commit_ok {h : PH} {a : Nat} {s : St} {F : List Nat} (hK : KAt h) (H : StAt h a s F) {k : Value → PH → Prop} (hk : ∀ h' F', StAt h' a (sCom s).1 F' → Upd F h h' → (∀ b ∈ F', b ∈ F ∨ h b = none) → k (.tuple #[.int .u64 ((sCom s).2.1 : Int), .int .i64 (sCom s).2.2]) h') :
    CallsH PG id_store_Store_Commit #[.pointer (some ⟨a, 0, none⟩)] h k := by
  apply store_Store_Commit.call
  unfold store_Store_Commit
  have hok := H.ok
  have hH := H
  have hkn := H.known
  obtain ⟨m, l, vv, bl, Fb, G, ha, hm, hp, hO, hS, hbl, rfl, hn1, hn2, hn3, hG⟩ := H.here
  have c0 : cellH h ⟨a, 0, none⟩ = some (.map (some m)) := by simp [cellH, ha]
  have c1 : cellH h ⟨a, 0 + 1, none⟩ = some vv := by simp [cellH, ha]
  have c2 : cellH h ⟨a, 0 + 2, none⟩ = some (.int .u64 s.height) := by simp [cellH, ha]
  have h4 := hok.h4
  by_cases d1 : s.height = 18446744073709551615
  · have g1 : ((s.height : Int) == 18446744073709551615) = true := by simp; omega
    simp only [T_store_Store.f2, T_uint64.load, c2, g1, popO_some, bindH_eq, condV_bool, condV_true, condV_false, yV_bool, gopV_tt, gopV_ff, gopV_tf, gopV_ft, pickV_t, pickV_f, pickV_bool, nilS_ptr, add_eq, sub_eq, mul_eq, lss_eq, leq_eq, gtr_eq, geq_eq, not_eq, minI_eq, maxI_eq, extract_0, extract_1, extract_2, eqlI, neqI, makeFunc_eq, decide_true, decide_false, if_true, if_false, Bool.false_eq_true, Bool.not_true, Bool.not_false, reduceIte, List.getElem?_toArray, List.getElem?_cons_zero, List.getElem?_cons_succ, Option.isSome_none, List.length_map]
    have hs : sCom s = (s, (0, 12)) := by unfold sCom; rw [if_pos d1]
    rw [hs] at hk
    exact hk h _ hH Upd.refl (fun b hb => .inl hb)
  have g1 : ((s.height : Int) == 18446744073709551615) = false := by simp; omega
  have lv := hO.slR.len (t' := T_int) T_sl_store_block.und
  have hbn : bl.length = s.blocks.length := by rw [← hbl, List.length_map]
  rw [List.length_map, hbn] at lv
  by_cases d2 : 4096 ≤ s.blocks.length
  · have g2 : ((4096 : Int) ≤ ((s.blocks.length : Nat) : Int)) = True := eq_true (by omega)
    simp only [T_store_Store.f2, T_store_Store.f1, T_uint64.load, T_sl_store_block.load, c1, c2, lv, g1, g2, popO_some, bindH_eq, condV_bool, condV_true, condV_false, yV_bool, gopV_tt, gopV_ff, gopV_tf, gopV_ft, pickV_t, pickV_f, pickV_bool, nilS_ptr, add_eq, sub_eq, mul_eq, lss_eq, leq_eq, gtr_eq, geq_eq, not_eq, minI_eq, maxI_eq, extract_0, extract_1, extract_2, eqlI, neqI, makeFunc_eq, decide_true, decide_false, if_true, if_false, Bool.false_eq_true, Bool.not_true, Bool.not_false, reduceIte, List.getElem?_toArray, List.getElem?_cons_zero, List.getElem?_cons_succ, Option.isSome_none, List.length_map]
    have hs : sCom s = (s, (0, 2)) := by unfold sCom; rw [if_neg d1, if_pos d2]
    rw [hs] at hk
    exact hk h _ hH Upd.refl (fun b hb => .inl hb)
  have g2 : ((4096 : Int) ≤ ((s.blocks.length : Nat) : Int)) = False := eq_false (by omega)
  simp only [T_store_Store.f2, T_store_Store.f1, T_store_Store.f0, T_uint64.load, T_sl_store_block.load, T_map_string_string.load, c0, c1, c2, lv, g1, g2, popO_some, bindH_eq, condV_bool, condV_true, condV_false, yV_bool, gopV_tt, gopV_ff, gopV_tf, gopV_ft, pickV_t, pickV_f, pickV_bool, nilS_ptr, add_eq, sub_eq, mul_eq, lss_eq, leq_eq, gtr_eq, geq_eq, not_eq, minI_eq, maxI_eq, extract_0, extract_1, extract_2, eqlI, neqI, makeFunc_eq, decide_true, decide_false, if_true, if_false, Bool.false_eq_true, Bool.not_true, Bool.not_false, reduceIte, List.getElem?_toArray, List.getElem?_cons_zero, List.getElem?_cons_succ, Option.isSome_none, List.length_map]
  refine range_it T_map_string_string.und hm fun it h1 hit HI u1 => ?_
  have hll : l.length ≤ 4096 := by rw [hp.length_eq]; exact hok.few
  refine ⟨fun vs h' => ∃ (pre : List Pr) (v : Value) (Fl : List Nat), vs = [.pointer (some ⟨a, 0, none⟩), v, .pointer (some ⟨it, 0, none⟩)] ∧ MapIt skey h' m it (l.map Pr.pr) (pre.map Pr.pr) ∧ OwnR h' T_api_Pair 2 v (pre.map Pr.cells) Fl ∧ Fresh h Fl ∧ it ∉ Fl ∧ Ext h h', fun _ h' => itLeft l.length it h', ⟨[], _, [], rfl, HI, OwnR.nil, (fun b hb => by cases hb), by simp, u1⟩, ?_⟩
  rintro ρ h' ⟨pre, v, Fl, hvs, HI, O, fl, hil, u⟩
  simp only [List.map_cons, List.map_nil, List.cons.injEq, and_true] at hvs
  obtain ⟨v0, v4, v24⟩ := hvs
  simp only [v0, v4, v24, List.map_cons, List.map_nil]
  unfold store_Store_Commit_b16
  have hlen := HI.le
  rw [List.length_map, List.length_map] at hlen
  refine next_it HI (fun hperm => ?_) (fun ky vl h2 hmem hnot HI2 u2 => ?_)
  · -- all are gathered
    have hpp : pre.Perm s.now := (perm_un hperm).trans hp
    simp only [popO_some, bindH_eq, condV_bool, condV_true, condV_false, yV_bool, gopV_tt, gopV_ff, gopV_tf, gopV_ft, pickV_t, pickV_f, pickV_bool, nilS_ptr, add_eq, sub_eq, mul_eq, lss_eq, leq_eq, gtr_eq, geq_eq, not_eq, minI_eq, maxI_eq, extract_0, extract_1, extract_2, eqlI, neqI, makeFunc_eq, decide_true, decide_false, if_true, if_false, Bool.false_eq_true, Bool.not_true, Bool.not_false, reduceIte, List.getElem?_toArray, List.getElem?_cons_zero, List.getElem?_cons_succ, Option.isSome_none, List.length_map]
    refine Sort_ok O (by omega) fun l' h2 hp2 hs2 O2 u2 => ?_
    have hl' : l' = s.now := Up.of (hp2.trans hpp) hok.up hs2
    subst hl'
    have e2 : Ext h h2 := u.fresh u2 fl
    have ha2 := e2.get ha
    have c1 : cellH h2 ⟨a, 0 + 1, none⟩ = some vv := by simp [cellH, ha2]
    obtain ⟨va, cap, hv, -⟩ := O2.slR.here
    rw [List.length_map] at hv
    have hsl := O2.slR
    rw [hv] at hsl
    simp only [T_store_Store.f1, T_sl_store_block.load, c1, hv, so_build, popO_some, bindH_eq, condV_bool, condV_true, condV_false, yV_bool, gopV_tt, gopV_ff, gopV_tf, gopV_ft, pickV_t, pickV_f, pickV_bool, nilS_ptr, add_eq, sub_eq, mul_eq, lss_eq, leq_eq, gtr_eq, geq_eq, not_eq, minI_eq, maxI_eq, extract_0, extract_1, extract_2, eqlI, neqI, makeFunc_eq, decide_true, decide_false, if_true, if_false, Bool.false_eq_true, Bool.not_true, Bool.not_false, reduceIte, List.getElem?_toArray, List.getElem?_cons_zero, List.getElem?_cons_succ, Option.isSome_none, List.length_map]
    refine Root_ok (by have := hok.few; omega) (hK.ext e2) hsl (fun p hp => by have := hok.fit p hp; unfold Fit at this; omega) fun h3 u3 => ?_
    have e3 := e2.trans u3
    have ha3 := e3.get ha
    refine ⟨by simp [cellH, ha3], ?_⟩
    simp only [bl_build, bl_lit, popO_some, bindH_eq, condV_bool, condV_true, condV_false, yV_bool, gopV_tt, gopV_ff, gopV_tf, gopV_ft, pickV_t, pickV_f, pickV_bool, nilS_ptr, add_eq, sub_eq, mul_eq, lss_eq, leq_eq, gtr_eq, geq_eq, not_eq, minI_eq, maxI_eq, extract_0, extract_1, extract_2, eqlI, neqI, makeFunc_eq, decide_true, decide_false, if_true, if_false, Bool.false_eq_true, Bool.not_true, Bool.not_false, reduceIte, List.getElem?_toArray, List.getElem?_cons_zero, List.getElem?_cons_succ, Option.isSome_none, List.length_map]
    intro r hr
    refine popO_pure ?_
    try rw [bindH_eq]
    have u4 : Ext h3 (h3.set r (.cells #[.slice va s.now.length cap, .string (tx (rootP s.now))] T_store_block)) := Upd.new hr
    have s4 : SlR (h3.set r (.cells #[.slice va s.now.length cap, .string (tx (rootP s.now))] T_store_block)) 2 (.slice (some ⟨r, 0, none⟩) 1 1) ([((.slice va s.now.length cap : Value), s.now)].map brow) := (OwnR.lit (n := 1) (brow.rows [((.slice va s.now.length cap : Value), s.now)]) set_same (by simp) (by decide) rfl).slR
    generalize h3.set r (.cells #[.slice va s.now.length cap, .string (tx (rootP s.now))] T_store_block) = h4' at *
    have e4 := e3.trans u4
    have hO4 := hO.ext e4
    refine append_own T_sl_store_block.und T_sl_store_block.und T_store_block.info T_store_block.size T_store_block.bytes T_store_block.zero rfl (by decide) hO4 s4 ?_ (by simp only [List.length_map, List.length_singleton]; omega) ?_
    · intro r hr u hu
      obtain ⟨y, hy, rfl⟩ := List.mem_map.1 hr
      simp only [List.mem_singleton] at hy
      subst hy
      simp only [brow, List.mem_cons, List.not_mem_nil, or_false] at hu
      rcases hu with rfl | rfl <;> rfl
    intro v5 h5 F5 O5 u5 k5 _
    have ha4 := e4.get ha
    have ha5 := u5.get ha4 hn2
    obtain ⟨x5, y5, hv5, -⟩ := O5.slR.here
    have hvc : isCell v5 = true := by rw [hv5]; rfl
    try simp only [T_store_Store.f1, popO_some, bindH_eq, condV_bool, condV_true, condV_false, yV_bool, gopV_tt, gopV_ff, gopV_tf, gopV_ft, pickV_t, pickV_f, pickV_bool, nilS_ptr, add_eq, sub_eq, mul_eq, lss_eq, leq_eq, gtr_eq, geq_eq, not_eq, minI_eq, maxI_eq, extract_0, extract_1, extract_2, eqlI, neqI, makeFunc_eq, decide_true, decide_false, if_true, if_false, Bool.false_eq_true, Bool.not_true, Bool.not_false, reduceIte, List.getElem?_toArray, List.getElem?_cons_zero, List.getElem?_cons_succ, Option.isSome_none, List.length_map]
    refine store_cell T_sl_store_block.und rfl ha5 (by simp) hvc T_sl_store_block.info T_sl_store_block.size ?_
    have ew1 : (#[(Value.map (some m)), vv, .int .u64 (s.height : Int)] : Array Value).setIfInBounds (0 + 1) v5 = #[.map (some m), v5, .int .u64 (s.height : Int)] := rfl
    rw [ew1]
    have u6 : Upd [a] h5 (h5.set a (.cells #[.map (some m), v5, .int .u64 (s.height : Int)] T_store_Store (0, 0))) := Upd.set (by simp)
    have a6 : (h5.set a (.cells #[.map (some m), v5, .int .u64 (s.height : Int)] T_store_Store (0, 0))) a = some (.cells #[.map (some m), v5, .int .u64 (s.height : Int)] T_store_Store (0, 0)) := set_same
    generalize h5.set a (.cells #[.map (some m), v5, .int .u64 (s.height : Int)] T_store_Store (0, 0)) = h6 at *
    have c2 : cellH h6 ⟨a, 0 + 2, none⟩ = some (.int .u64 s.height) := by simp [cellH, a6]
    have ei : IntKind.u64.wrap ((s.height : Int) + 1) = ((s.height + 1 : Nat) : Int) := by rw [u64_wrap (by omega) (by omega)]; omega
    simp only [T_store_Store.f2, T_uint64.load, c2, ei, popO_some, bindH_eq, condV_bool, condV_true, condV_false, yV_bool, gopV_tt, gopV_ff, gopV_tf, gopV_ft, pickV_t, pickV_f, pickV_bool, nilS_ptr, add_eq, sub_eq, mul_eq, lss_eq, leq_eq, gtr_eq, geq_eq, not_eq, minI_eq, maxI_eq, extract_0, extract_1, extract_2, eqlI, neqI, makeFunc_eq, decide_true, decide_false, if_true, if_false, Bool.false_eq_true, Bool.not_true, Bool.not_false, reduceIte, List.getElem?_toArray, List.getElem?_cons_zero, List.getElem?_cons_succ, Option.isSome_none, List.length_map]
    refine store_cell T_uint64.und rfl a6 (by simp) rfl T_uint64.info T_uint64.size ?_
    have ew2 : (#[(Value.map (some m)), v5, .int .u64 (s.height : Int)] : Array Value).setIfInBounds (0 + 2) (.int .u64 ((s.height + 1 : Nat) : Int)) = #[.map (some m), v5, .int .u64 ((s.height + 1 : Nat) : Int)] := rfl
    rw [ew2]
    have u7 : Upd [a] h6 (h6.set a (.cells #[.map (some m), v5, .int .u64 ((s.height + 1 : Nat) : Int)] T_store_Store (0, 0))) := Upd.set (by simp)
    have a7 : (h6.set a (.cells #[.map (some m), v5, .int .u64 ((s.height + 1 : Nat) : Int)] T_store_Store (0, 0))) a = some (.cells #[.map (some m), v5, .int .u64 ((s.height + 1 : Nat) : Int)] T_store_Store (0, 0)) := set_same
    generalize h6.set a (.cells #[.map (some m), v5, .int .u64 ((s.height + 1 : Nat) : Int)] T_store_Store (0, 0)) = h7 at *
    have c2 : cellH h7 ⟨a, 0 + 2, none⟩ = some (.int .u64 ((s.height + 1 : Nat) : Int)) := by simp [cellH, a7]
    simp only [T_store_Store.f2, T_uint64.load, c2, popO_some, bindH_eq, condV_bool, condV_true, condV_false, yV_bool, gopV_tt, gopV_ff, gopV_tf, gopV_ft, pickV_t, pickV_f, pickV_bool, nilS_ptr, add_eq, sub_eq, mul_eq, lss_eq, leq_eq, gtr_eq, geq_eq, not_eq, minI_eq, maxI_eq, extract_0, extract_1, extract_2, eqlI, neqI, makeFunc_eq, decide_true, decide_false, if_true, if_false, Bool.false_eq_true, Bool.not_true, Bool.not_false, reduceIte, List.getElem?_toArray, List.getElem?_cons_zero, List.getElem?_cons_succ, Option.isSome_none, List.length_map]
    have hs : sCom s = ({ s with blocks := s.blocks ++ [s.now], height := s.height + 1 }, (s.height + 1, 0)) := by unfold sCom; rw [if_neg d1, if_neg d2]
    rw [hs] at hk
    -- what was changed
    have w5 : Upd (a :: Fb) h4' h5 := u5.mono fun b hb => .inl (by simp [hb])
    have w7 : Upd (a :: Fb) h5 h7 := (u6.trans u7).mono fun b hb => .inl (by simp at hb; simp [hb])
    have w : Upd (a :: Fb) h4' h7 := w5.trans w7
    have wh : Upd (a :: Fb) h h7 := e4.upd.trans w
    have hflh : ∀ b ∈ Fl, b ≠ a ∧ b ≠ m ∧ b ∉ Fb := fun b hb => by
      have := fl b hb
      refine ⟨fun e => ?_, fun e => ?_, fun e => ?_⟩
      · subst e; rw [ha] at this; cases this
      · subst e; exact MapAt.known hm this
      · exact hO.known b e this
    have hO4l := (O2.ext u3).ext u4
    have hFlk : ∀ b ∈ Fl, h4' b ≠ none := hO4l.known
    have hnoF5 : ∀ b, h4' b ≠ none → b ∉ Fb → b ∉ F5 := fun b h1 h2 h3 => by
      rcases k5 b h3 with h | h
      · exact h2 h
      · exact h1 h
    have ha4n : h4' a ≠ none := by rw [ha4]; simp
    have hm4n : h4' m ≠ none := MapAt.known (MapAt.ext hm e4)
    have hG4 : ∀ g ∈ G, h4' g ≠ none := fun g hg => by
      obtain ⟨o, ho⟩ := Option.ne_none_iff_exists'.1 (hG g hg).2.2.2
      rw [e4.get ho]; simp
    have hOl7 := hO4l.upd w (fun b hb => by simp only [List.mem_cons, not_or]; exact ⟨(hflh b hb).1, (hflh b hb).2.2⟩)
    refine hk h7 (a :: m :: (F5 ++ (G ++ Fl))) ⟨⟨m, l, v5, bl ++ [(.slice va s.now.length cap, s.now)], F5, G ++ Fl, a7, MapAt.upd hm wh (by simp only [List.mem_cons, not_or]; exact ⟨hn1.symm, hn3⟩), hp, ?_, ?_, ?_, rfl, hn1, hnoF5 a ha4n hn2, hnoF5 m hm4n hn3, ?_⟩, ?_⟩ (wh.mono fun b hb => .inl ?_) ?_
    · rw [List.map_append]
      exact O5.upd (u6.trans u7) (fun b hb => by simp only [List.mem_singleton]; rintro rfl; exact hnoF5 _ ha4n hn2 hb)
    · intro x hx
      rw [List.mem_append] at hx
      rcases hx with hx | hx
      · refine ⟨(hS x hx).1.upd wh fun y n c e => ?_, fun y n c e => List.mem_append_left _ ((hS x hx).2 y n c e)⟩
        have hg := hG _ ((hS x hx).2 y n c e)
        simp only [List.mem_cons, not_or]
        exact ⟨hg.1, hg.2.2.1⟩
      · simp only [List.mem_singleton] at hx
        subst hx
        have hs7 := hOl7.slR
        rw [hv] at hs7
        refine ⟨hs7, fun y n c e => List.mem_append_right _ ?_⟩
        rcases hOl7.here with ⟨e1, _, _⟩ | ⟨b, cap', cs, e1, e2, _⟩
        · rw [hv] at e1
          simp only [Value.slice.injEq] at e1 e
          rw [e1.1] at e
          cases e.1
        · rw [hv] at e1
          simp only [Value.slice.injEq] at e1 e
          rw [e1.1] at e
          simp only [Option.some.injEq] at e
          rw [← e.1, e2]; simp
    · rw [List.map_append, hbl]; rfl
    · intro g hg
      rw [List.mem_append] at hg
      have wk : h4' g ≠ none → g ≠ a → g ∉ Fb → h7 g ≠ none := fun h1 h2 h3 => by
        obtain ⟨o, ho⟩ := Option.ne_none_iff_exists'.1 h1
        rw [w.get ho (by simp only [List.mem_cons, not_or]; exact ⟨h2, h3⟩)]; simp
      rcases hg with hg | hg
      · have := hG g hg
        exact ⟨this.1, this.2.1, hnoF5 g (hG4 g hg) this.2.2.1, wk (hG4 g hg) this.1 this.2.2.1⟩
      · have := hflh g hg
        exact ⟨this.1, this.2.1, hnoF5 g (hFlk g hg) this.2.2, wk (hFlk g hg) this.1 this.2.2⟩
    · refine ⟨hok.up, hok.fit, hok.few, fun b hb => ?_, ?_, ?_, ?_, ?_⟩
      · simp only [List.mem_append, List.mem_singleton] at hb
        rcases hb with hb | rfl
        · exact hok.blk b hb
        · exact ⟨hok.up, hok.fit, hok.few⟩
      · simp
      · simp only [List.length_append, List.length_singleton]; omega
      · have := hok.h3
        have := hok.h1
        simp only [List.length_append, List.length_singleton]; omega
      · show s.height + 1 < 18446744073709551616
        omega
    · simp only [List.mem_cons] at hb
      simp only [List.mem_cons, List.mem_append]
      rcases hb with hb | hb
      · exact .inl hb
      · exact .inr (.inr (.inl hb))
    · intro b hb
      simp only [List.mem_cons, List.mem_append] at hb ⊢
      rcases hb with hb | hb | hb | hb | hb
      · exact .inl (.inl hb)
      · exact .inl (.inr (.inl hb))
      · rcases k5 b hb with h1 | h1
        · exact .inl (.inr (.inr (.inl h1)))
        · exact .inr (e4.none h1)
      · exact .inl (.inr (.inr (.inr hb)))
      · exact .inr (fl b hb)
  · -- one more
    obtain ⟨p, hpl, hpe⟩ := List.mem_map.1 hmem
    have hky : ky = p.k := by have := congrArg Prod.fst hpe; exact this.symm
    have hvl : vl = .string (tx p.v) := by have := congrArg Prod.snd hpe; exact this.symm
    subst hky hvl
    have O2 := O.upd u2 (fun b hb => by simp only [List.mem_singleton]; rintro rfl; exact hil hb)
    have e2 : Ext h h2 := u.fresh u2 (Fresh.one hit)
    simp only [popO_some, bindH_eq, condV_bool, condV_true, condV_false, yV_bool, gopV_tt, gopV_ff, gopV_tf, gopV_ft, pickV_t, pickV_f, pickV_bool, nilS_ptr, add_eq, sub_eq, mul_eq, lss_eq, leq_eq, gtr_eq, geq_eq, not_eq, minI_eq, maxI_eq, extract_0, extract_1, extract_2, eqlI, neqI, makeFunc_eq, decide_true, decide_false, if_true, if_false, Bool.false_eq_true, Bool.not_true, Bool.not_false, reduceIte, List.getElem?_toArray, List.getElem?_cons_zero, List.getElem?_cons_succ, Option.isSome_none, List.length_map]
    refine entry_it HI2 ?_
    have ek : skey p.k = .string (tx p.k) := rfl
    simp only [ek, pr_build, pr_lit, popO_some, bindH_eq, condV_bool, condV_true, condV_false, yV_bool, gopV_tt, gopV_ff, gopV_tf, gopV_ft, pickV_t, pickV_f, pickV_bool, nilS_ptr, add_eq, sub_eq, mul_eq, lss_eq, leq_eq, gtr_eq, geq_eq, not_eq, minI_eq, maxI_eq, extract_0, extract_1, extract_2, eqlI, neqI, makeFunc_eq, decide_true, decide_false, if_true, if_false, Bool.false_eq_true, Bool.not_true, Bool.not_false, reduceIte, List.getElem?_toArray, List.getElem?_cons_zero, List.getElem?_cons_succ, Option.isSome_none, List.length_map]
    intro r hr
    refine popO_pure ?_
    try rw [bindH_eq]
    have u3 : Ext h2 (h2.set r (.cells #[.string (tx p.k), .string (tx p.v)] T_api_Pair)) := Upd.new hr
    have s3 : SlR (h2.set r (.cells #[.string (tx p.k), .string (tx p.v)] T_api_Pair)) 2 (.slice (some ⟨r, 0, none⟩) 1 1) ([p].map Pr.cells) := (OwnR.lit (n := 1) (Pr.rows [p]) set_same (by simp) (by decide) rfl).slR
    generalize h2.set r (.cells #[.string (tx p.k), .string (tx p.v)] T_api_Pair) = h3 at *
    have HI3 := HI2.upd u3 (by simp) (by simp)
    have O3 := O2.ext u3
    refine append_own T_sl_api_Pair.und T_sl_api_Pair.und T_api_Pair.info T_api_Pair.size T_api_Pair.bytes T_api_Pair.zero rfl (by decide) O3 s3 (Pr.isCell [p]) (by simp; omega) ?_
    intro v4' h4' F4 O4 u4 k4 _
    have e3 := e2.trans u3
    have hit3 : it ∉ F4 := fun hm => by
      rcases k4 it hm with h1 | h1
      · exact hil h1
      · exact HI3.known h1
    have HI4 := HI3.upd u4 (fun hm' => by have := fl m hm'; exact MapAt.known hm this) hil
    refine ⟨⟨pre ++ [p], v4', F4, (by trivial), ?_, ?_, fl.grow e3 k4, hit3, e3.fresh u4 fl⟩, ?_⟩
    · rw [List.map_append]; exact HI4
    · rw [List.map_append]; exact O4
    · rw [HI4.left, HI.left]
      have := HI4.le
      simp only [List.length_append, List.length_map, List.length_cons, List.length_nil] at this ⊢
      omega
end Go.Proofs.YtllopddcpkhfjaaGreatDoor
/- store: the document's store. -/
set_option linter.unusedSimpArgs false
set_option linter.unusedVariables false
namespace Go.Proofs.YtllopddcpkhfjaaGreatDoor
open Go Bld
set_option maxRecDepth 20000
/-! ### a rising list, cut at a key -/
structure Cut (L : List Pr) (k : Tx) (A M B : List Pr) : Prop where
  eq : L = A ++ (M ++ B)
  lo : ∀ p ∈ A, p.k < k
  hi : ∀ p ∈ B, k < p.k
  mid : M = [] ∨ ∃ p, M = [p] ∧ p.k = k
theorem Up.cut (k : Tx) : ∀ {L : List Pr}, Up L → ∃ A M B, Cut L k A M B
  | [], _ => ⟨[], [], [], rfl, by simp, by simp, .inl rfl⟩
  | p :: L, h => by
    unfold Up at h
    rw [List.pairwise_cons] at h
    obtain ⟨h1, h2⟩ := h
    rcases tx_total p.k k with e | e | e
    · obtain ⟨A, M, B, c⟩ := Up.cut k h2
      refine ⟨p :: A, M, B, by rw [c.eq]; rfl, fun q hq => ?_, c.hi, c.mid⟩
      rcases List.mem_cons.1 hq with rfl | hq
      · exact e
      · exact c.lo q hq
    · exact ⟨[], [p], L, rfl, by simp, fun q hq => by rw [← e]; exact h1 q hq, .inr ⟨p, rfl, e⟩⟩
    · refine ⟨[], [], p :: L, rfl, by simp, fun q hq => ?_, .inl rfl⟩
      rcases List.mem_cons.1 hq with rfl | hq
      · exact e
      · exact List.lt_trans e (h1 q hq)
theorem Cut.set {L A M B : List Pr} {k v : Tx} (c : Cut L k A M B) (h : Up L) : setL L ⟨k, v⟩ = A ++ ⟨k, v⟩ :: B := by
  unfold setL
  have fA : A.filter (fun q => decide (q.k < k)) = A := List.filter_eq_self.2 fun p hp => by simpa using c.lo p hp
  have fA2 : A.filter (fun q => decide (k < q.k)) = [] := List.filter_eq_nil_iff.2 fun p hp => by simpa using List.lt_asymm (c.lo p hp)
  have fB : B.filter (fun q => decide (k < q.k)) = B := List.filter_eq_self.2 fun p hp => by simpa using c.hi p hp
  have fB2 : B.filter (fun q => decide (q.k < k)) = [] := List.filter_eq_nil_iff.2 fun p hp => by simpa using List.lt_asymm (c.hi p hp)
  have fM : M.filter (fun q => decide (q.k < k)) = [] := List.filter_eq_nil_iff.2 fun p hp => by
    rcases c.mid with e | ⟨q, e, e2⟩
    · rw [e] at hp; cases hp
    · rw [e] at hp; simp only [List.mem_singleton] at hp; subst hp; rw [e2]; simp [List.lt_irrefl]
  have fM2 : M.filter (fun q => decide (k < q.k)) = [] := List.filter_eq_nil_iff.2 fun p hp => by
    rcases c.mid with e | ⟨q, e, e2⟩
    · rw [e] at hp; cases hp
    · rw [e] at hp; simp only [List.mem_singleton] at hp; subst hp; rw [e2]; simp [List.lt_irrefl]
  rw [c.eq, List.filter_append, List.filter_append, List.filter_append, List.filter_append]
  simp only [fA, fA2, fB, fB2, fM, fM2, List.append_nil, List.nil_append]
theorem Cut.del {L A M B : List Pr} {k : Tx} (c : Cut L k A M B) : delL L k = A ++ B := by
  unfold delL
  have fA : A.filter (fun q => decide (q.k ≠ k)) = A := List.filter_eq_self.2 fun p hp => by
    have := c.lo p hp
    simp only [decide_eq_true_eq]; intro e; rw [e] at this; exact List.lt_irrefl _ this
  have fB : B.filter (fun q => decide (q.k ≠ k)) = B := List.filter_eq_self.2 fun p hp => by
    have := c.hi p hp
    simp only [decide_eq_true_eq]; intro e; rw [e] at this; exact List.lt_irrefl _ this
  have fM : M.filter (fun q => decide (q.k ≠ k)) = [] := List.filter_eq_nil_iff.2 fun p hp => by
    rcases c.mid with e | ⟨q, e, e2⟩
    · rw [e] at hp; cases hp
    · rw [e] at hp; simp only [List.mem_singleton] at hp; subst hp; simp [e2]
  rw [c.eq, List.filter_append, List.filter_append, fA, fB, fM, List.nil_append]
theorem Cut.get {L A M B : List Pr} {k : Tx} (c : Cut L k A M B) (h : Up L) : (getL L k).isSome = decide (M ≠ []) := by
  rcases c.mid with e | ⟨q, e, e2⟩
  · subst e
    have : getL L k = none := getL_none.2 fun p hp e => by
      rw [c.eq, List.nil_append, List.mem_append] at hp
      rcases hp with hp | hp
      · have := c.lo p hp; rw [e] at this; exact List.lt_irrefl _ this
      · have := c.hi p hp; rw [e] at this; exact List.lt_irrefl _ this
    rw [this]; rfl
  · subst e
    have : getL L k = some q := (getL_some h).2 ⟨by rw [c.eq]; simp, e2⟩
    rw [this]; rfl
/-! ### the document's store in memory -/
def vcell (x : Value × List Pr) : List Value := [x.1]
theorem vcell.rows (l : List (Value × List Pr)) : Rows 1 (l.map vcell) := fun r hr => by
  obtain ⟨p, -, rfl⟩ := List.mem_map.1 hr; rfl
structure RfAt (h : PH) (b : Nat) (s : St) (G : List Nat) : Prop where
  here : ∃ (nv bv : Value) (bl : List (Value × List Pr)), h b = some (.cells #[nv, .int .u64 ((s.height - (s.blocks.length - 1) : Nat) : Int), bv] T_carrackref11_Store (0, 0)) ∧ SlR h 2 nv (s.now.map Pr.cells) ∧ SlR h 1 bv (bl.map vcell) ∧
    (∀ x ∈ bl, SlR h 2 x.1 (x.2.map Pr.cells) ∧ inBlocks x.1 G) ∧ bl.map (·.2) = s.blocks ∧ inBlocks nv G ∧ inBlocks bv G ∧ b ∉ G ∧ ∀ g ∈ G, h g ≠ none
  ok : s.Ok
theorem RfAt.upd {h h' : PH} {b : Nat} {s : St} {G K : List Nat} (H : RfAt h b s G) (u : Upd K h h') (hb : b ∉ K) (hd : ∀ g ∈ G, g ∉ K) : RfAt h' b s G := by
  obtain ⟨nv, bv, bl, h1, h2, h3, h4, h5, h6, h7, h8, h9⟩ := H.here
  refine ⟨⟨nv, bv, bl, u.get h1 hb, h2.upd u fun a n c e => hd _ (h6 a n c e), h3.upd u fun a n c e => hd _ (h7 a n c e), fun x hx => ⟨(h4 x hx).1.upd u fun a n c e => hd _ ((h4 x hx).2 a n c e), (h4 x hx).2⟩, h5, h6, h7, h8, fun g hg => ?_⟩, H.ok⟩
  obtain ⟨o, ho⟩ := Option.ne_none_iff_exists'.1 (h9 g hg)
  rw [u.get ho (hd g hg)]; simp
theorem RfAt.ext {h h' : PH} {b : Nat} {s : St} {G : List Nat} (H : RfAt h b s G) (u : Ext h h') : RfAt h' b s G := H.upd u (by simp) (by simp)
theorem RfAt.known {h : PH} {b : Nat} {s : St} {G : List Nat} (H : RfAt h b s G) : ∀ g ∈ b :: G, h g ≠ none := by
  obtain ⟨nv, bv, bl, h1, h2, h3, h4, h5, h6, h7, h8, h9⟩ := H.here
  intro g hg
  rcases List.mem_cons.1 hg with rfl | hg
  · rw [h1]; simp
  · exact h9 g hg
theorem RNew_ok {h : PH} (n : Nat) (hn : n < 18446744073709551616) {k : Value → PH → Prop} (hk : ∀ b h' G, RfAt h' b ⟨[], [[]], n⟩ G → Fresh h (b :: G) → Ext h h' → k (.pointer (some ⟨b, 0, none⟩)) h') : CallsH PG id_carrackref11_New #[.int .u64 (n : Int)] h k := by
  apply carrackref11_New.call
  unfold carrackref11_New
  have b1 : SemA PG (Instr.buildSlice T_sl_sl_api_Pair 1 #[(0, (Value.slice none 0 0))]) = some (.cells #[.slice none 0 0] T_sl_api_Pair, fun r => pure (.slice (some ⟨r, 0, none⟩) 1 1)) := by kernel_rfl
  simp only [b1, popO_some, bindH_eq, condV_bool, condV_true, condV_false, yV_bool, gopV_tt, gopV_ff, gopV_tf, gopV_ft, pickV_t, pickV_f, pickV_bool, nilS_ptr, add_eq, sub_eq, mul_eq, lss_eq, leq_eq, gtr_eq, geq_eq, not_eq, minI_eq, maxI_eq, extract_0, extract_1, extract_2, eqlI, neqI, makeFunc_eq, decide_true, decide_false, if_true, if_false, Bool.false_eq_true, Bool.not_true, Bool.not_false, reduceIte, List.getElem?_toArray, List.getElem?_cons_zero, List.getElem?_cons_succ, Option.isSome_none, List.length_map]
  intro r hr
  refine popO_pure ?_
  try rw [bindH_eq]
  have u1 : Ext h (h.set r (.cells #[.slice none 0 0] T_sl_api_Pair)) := Upd.new hr
  have O1 : OwnR (h.set r (.cells #[.slice none 0 0] T_sl_api_Pair)) T_sl_api_Pair 1 (.slice (some ⟨r, 0, none⟩) 1 1) ([((.slice none 0 0 : Value), ([] : List Pr))].map vcell) [r] := OwnR.lit (n := 1) (vcell.rows [((.slice none 0 0 : Value), ([] : List Pr))]) set_same (by simp) (by decide) rfl
  generalize h.set r (.cells #[.slice none 0 0] T_sl_api_Pair) = h1 at *
  have b2 : SemP PG (Instr.build T_carrackref11_Store #[(1, .int .u64 (n : Int)), (2, .slice (some ⟨r, 0, none⟩) 1 1)]) = some (.agg #[.slice none 0 0, .int .u64 (n : Int), .slice (some ⟨r, 0, none⟩) 1 1]) := by kernel_rfl
  simp only [b2, popO_some, bindH_eq, condV_bool, condV_true, condV_false, yV_bool, gopV_tt, gopV_ff, gopV_tf, gopV_ft, pickV_t, pickV_f, pickV_bool, nilS_ptr, add_eq, sub_eq, mul_eq, lss_eq, leq_eq, gtr_eq, geq_eq, not_eq, minI_eq, maxI_eq, extract_0, extract_1, extract_2, eqlI, neqI, makeFunc_eq, decide_true, decide_false, if_true, if_false, Bool.false_eq_true, Bool.not_true, Bool.not_false, reduceIte, List.getElem?_toArray, List.getElem?_cons_zero, List.getElem?_cons_succ, Option.isSome_none, List.length_map]
  intro b hb
  try rw [bindH_eq]
  have u2 : Ext h1 (h1.set b (.cells (Value.cells (.agg #[.slice none 0 0, .int .u64 (n : Int), .slice (some ⟨r, 0, none⟩) 1 1])) T_carrackref11_Store)) := Upd.new hb
  have hrb : b ≠ r := by rintro rfl; exact O1.known _ (by simp) hb
  refine hk b _ [r] ⟨⟨.slice none 0 0, .slice (some ⟨r, 0, none⟩) 1 1, [(.slice none 0 0, [])], set_same, (OwnR.nil (e := T_api_Pair)).slR, (O1.ext u2).slR, ?_, rfl, (fun y m c e => by cases e), inB_own O1, by simpa using hrb, ?_⟩, St.Ok.new n hn⟩ (fun g hg => ?_) (u1.trans u2)
  · intro x hx
    simp only [List.mem_singleton] at hx
    subst hx
    exact ⟨(OwnR.nil (e := T_api_Pair)).slR, fun x n c e => by cases e⟩
  · intro g hg
    exact (O1.ext u2).known g hg
  · simp only [List.mem_cons, List.not_mem_nil, or_false] at hg
    rcases hg with rfl | rfl
    · exact u1.none hb
    · exact hr
theorem find_ok {h : PH} {b : Nat} {s : St} {G : List Nat} (H : RfAt h b s G) {key : Tx} {A M B : List Pr} (c : Cut s.now key A M B) {k : Value → PH → Prop} (hk : k (.tuple #[.int .i64 (A.length : Int), .bool (decide (M ≠ []))]) h) :
    CallsH PG id_carrackref11_Store_find #[.pointer (some ⟨b, 0, none⟩), .string (tx key)] h k := by
  apply carrackref11_Store_find.call
  unfold carrackref11_Store_find
  have hfew := H.ok.few
  obtain ⟨nv, bv, bl, h1, h2, h3, h4, h5, h6, h7, h8, h9⟩ := H.here
  have c0 : cellH h ⟨b, 0, none⟩ = some nv := by simp [cellH, h1]
  have ln := h2.len (t' := T_int) T_sl_api_Pair.und
  rw [List.length_map] at ln
  have hlen : s.now.length = A.length + (M.length + B.length) := by rw [c.eq]; simp
  refine ⟨fun vs h' => ∃ i, i ≤ A.length ∧ vs = [.pointer (some ⟨b, 0, none⟩), .string (tx key), .int .i64 (i : Int)] ∧ h' = h, upTo A.length 2, ⟨0, by omega, rfl, rfl⟩, ?_⟩
  rintro ρ h' ⟨i, hi, hvs, rfl⟩
  simp only [List.map_cons, List.map_nil, List.cons.injEq, and_true] at hvs
  obtain ⟨v0, v1, v6⟩ := hvs
  simp only [v0, v1, v6, List.map_cons, List.map_nil]
  unfold carrackref11_Store_find_b2
  by_cases hl : i < s.now.length
  · have g1 : ((i : Int) < (s.now.length : Int)) = True := eq_true (by omega)
    have gi : IntKind.i64.wrap ((i : Int) + 1) = ((i + 1 : Nat) : Int) := by rw [i64_wrap (by omega) (by omega)]; omega
    obtain ⟨p, hp⟩ : ∃ p, s.now[i]? = some p := ⟨s.now[i], List.getElem?_eq_getElem hl⟩
    obtain ⟨pb, po, e1, e2, -, -⟩ := h2.pair (j := i) (p := p) hp
    by_cases hiA : i < A.length
    · have hpA : p ∈ A := by
        rw [c.eq, List.getElem?_append_left hiA] at hp
        exact List.mem_of_getElem? hp
      have hlt := c.lo p hpA
      simp only [T_carrackref11_Store.f0, T_sl_api_Pair.load, c0, ln, g1, e1, T_api_Pair.f0, T_string.load, e2, lss_tx, hlt, gi, popO_some, bindH_eq, condV_bool, condV_true, condV_false, yV_bool, gopV_tt, gopV_ff, gopV_tf, gopV_ft, pickV_t, pickV_f, pickV_bool, nilS_ptr, add_eq, sub_eq, mul_eq, lss_eq, leq_eq, gtr_eq, geq_eq, not_eq, minI_eq, maxI_eq, extract_0, extract_1, extract_2, eqlI, neqI, makeFunc_eq, decide_true, decide_false, if_true, if_false, Bool.false_eq_true, Bool.not_true, Bool.not_false, reduceIte, List.getElem?_toArray, List.getElem?_cons_zero, List.getElem?_cons_succ, Option.isSome_none, List.length_map]
      refine ⟨⟨i + 1, by omega, rfl, (by trivial)⟩, ?_⟩
      simp only [upTo, List.getElem?_cons_succ, List.getElem?_cons_zero]
      omega
    · have hiE : i = A.length := by omega
      have hp2 : (M ++ B)[0]? = some p := by
        rw [c.eq, List.getElem?_append_right (by omega), hiE, Nat.sub_self] at hp
        exact hp
      have hnl : ¬ p.k < key := by
        rcases c.mid with e | ⟨q, e, e3⟩
        · rw [e, List.nil_append] at hp2
          exact List.lt_asymm (c.hi p (List.mem_of_getElem? hp2))
        · rw [e] at hp2
          simp only [List.cons_append, List.getElem?_cons_zero, Option.some.injEq] at hp2
          rw [← hp2, e3]; exact List.lt_irrefl _
      have heq : decide (p.k = key) = decide (M ≠ []) := by
        rcases c.mid with e | ⟨q, e, e3⟩
        · rw [e, List.nil_append] at hp2
          have := c.hi p (List.mem_of_getElem? hp2)
          have hne : p.k ≠ key := fun e => by rw [e] at this; exact List.lt_irrefl _ this
          simp [e, hne]
        · rw [e] at hp2
          simp only [List.cons_append, List.getElem?_cons_zero, Option.some.injEq] at hp2
          rw [← hp2]
          simp [e, e3]
      simp only [T_carrackref11_Store.f0, T_sl_api_Pair.load, c0, ln, g1, e1, T_api_Pair.f0, T_string.load, e2, lss_tx, hnl, eqlStr, heq, popO_some, bindH_eq, condV_bool, condV_true, condV_false, yV_bool, gopV_tt, gopV_ff, gopV_tf, gopV_ft, pickV_t, pickV_f, pickV_bool, nilS_ptr, add_eq, sub_eq, mul_eq, lss_eq, leq_eq, gtr_eq, geq_eq, not_eq, minI_eq, maxI_eq, extract_0, extract_1, extract_2, eqlI, neqI, makeFunc_eq, decide_true, decide_false, if_true, if_false, Bool.false_eq_true, Bool.not_true, Bool.not_false, reduceIte, List.getElem?_toArray, List.getElem?_cons_zero, List.getElem?_cons_succ, Option.isSome_none, List.length_map]
      rw [hiE]; exact hk
  · have g1 : ((i : Int) < (s.now.length : Int)) = False := eq_false (by omega)
    have hiE : i = A.length := by omega
    have hM : M = [] := List.eq_nil_of_length_eq_zero (by omega)
    simp only [T_carrackref11_Store.f0, T_sl_api_Pair.load, c0, ln, g1, popO_some, bindH_eq, condV_bool, condV_true, condV_false, yV_bool, gopV_tt, gopV_ff, gopV_tf, gopV_ft, pickV_t, pickV_f, pickV_bool, nilS_ptr, add_eq, sub_eq, mul_eq, lss_eq, leq_eq, gtr_eq, geq_eq, not_eq, minI_eq, maxI_eq, extract_0, extract_1, extract_2, eqlI, neqI, makeFunc_eq, decide_true, decide_false, if_true, if_false, Bool.false_eq_true, Bool.not_true, Bool.not_false, reduceIte, List.getElem?_toArray, List.getElem?_cons_zero, List.getElem?_cons_succ, Option.isSome_none, List.length_map]
    have : decide (M ≠ []) = false := by simp [hM]
    rw [this] at hk
    rw [hiE]; exact hk
end Go.Proofs.YtllopddcpkhfjaaGreatDoor
/- store: the document's store: Set, Delete, Commit; a call of both. -/
set_option linter.unusedSimpArgs false
set_option linter.unusedVariables false
namespace Go.Proofs.YtllopddcpkhfjaaGreatDoor
open Go Bld
set_option maxRecDepth 20000
theorem b0_lit : SemA PG (Instr.buildSlice T_sl_api_Pair 0 #[]) = some (.cells #[] T_api_Pair, fun r => pure (.slice (some ⟨r, 0, none⟩) 0 0)) := by kernel_rfl
theorem app_pr {h : PH} {v x : Value} {l ys : List Pr} {F : List Nat} (O : OwnR h T_api_Pair 2 v (l.map Pr.cells) F) (S : SlR h 2 x (ys.map Pr.cells)) (hl : l.length + ys.length ≤ 1000000) {t : TypeId} {k : Value → PH → Prop}
    (hk : ∀ v' h' F', OwnR h' T_api_Pair 2 v' ((l ++ ys).map Pr.cells) F' → Upd F h h' → (∀ b ∈ F', b ∈ F ∨ h b = none) → k v' h') : SemH PG (Builtin.append_ #[T_sl_api_Pair, T_sl_api_Pair] t #[v, x]) h k := by
  refine append_own T_sl_api_Pair.und T_sl_api_Pair.und T_api_Pair.info T_api_Pair.size T_api_Pair.bytes T_api_Pair.zero rfl (by decide) O S (Pr.isCell ys) (by simp; omega) ?_
  intro v' h' F' O' u' k' _
  rw [← List.map_append] at O'
  exact hk v' h' F' O' u' k'
/-- The new pairs are laid. -/
theorem RfAt.now {h h1 h' : PH} {b : Nat} {s : St} {G F : List Nat} {n : List Pr} {nv bv v : Value} (H : RfAt h b s G) (hb : h b = some (.cells #[nv, .int .u64 ((s.height - (s.blocks.length - 1) : Nat) : Int), bv] T_carrackref11_Store (0, 0))) (u : Ext h h1) (O : OwnR h1 T_api_Pair 2 v (n.map Pr.cells) F) (fF : Fresh h F) (hok : St.Ok { s with now := n })
    (e : h' = h1.set b (.cells #[v, .int .u64 ((s.height - (s.blocks.length - 1) : Nat) : Int), bv] T_carrackref11_Store (0, 0))) : RfAt h' b { s with now := n } (G ++ F) ∧ Upd [b] h h' ∧ (∀ g ∈ G ++ F, g ∈ G ∨ h g = none) := by
  subst e
  obtain ⟨nv', bv', bl, h1', h2, h3, h4, h5, h6, h7, h8, h9⟩ := H.here
  rw [hb] at h1'
  simp only [Option.some.injEq, Obj.cells.injEq, Array.mk.injEq, List.cons.injEq, and_true, true_and] at h1'
  obtain ⟨rfl, rfl⟩ := h1'
  have uu : Upd [b] h (h1.set b (.cells #[v, .int .u64 ((s.height - (s.blocks.length - 1) : Nat) : Int), bv] T_carrackref11_Store (0, 0))) := u.upd.trans (Upd.set (by simp))
  have hG : ∀ g ∈ G, g ∉ [b] := fun g hg => by simp only [List.mem_singleton]; rintro rfl; exact h8 hg
  have hF : ∀ g ∈ F, g ∉ [b] := fun g hg => by
    simp only [List.mem_singleton]; rintro rfl
    have := fF _ hg
    rw [hb] at this; cases this
  have O' := O.upd (Upd.set (F := [b]) (r := b) (o := (.cells #[v, .int .u64 ((s.height - (s.blocks.length - 1) : Nat) : Int), bv] T_carrackref11_Store (0, 0))) (by simp)) hF
  refine ⟨⟨⟨v, bv, bl, set_same, O'.slR, h3.upd uu fun a n c e => hG _ (h7 a n c e), fun x hx => ⟨(h4 x hx).1.upd uu fun a n c e => hG _ ((h4 x hx).2 a n c e), fun a n c e => List.mem_append_left _ ((h4 x hx).2 a n c e)⟩, h5, fun a n c e => List.mem_append_right _ (inB_own O' a n c e), fun a n c e => List.mem_append_left _ (h7 a n c e), ?_, fun g hg => ?_⟩, hok⟩, uu, fun g hg => ?_⟩
  · intro hm
    rcases List.mem_append.1 hm with hm | hm
    · exact h8 hm
    · exact hF _ hm (by simp)
  · rcases List.mem_append.1 hg with hg | hg
    · obtain ⟨o, ho⟩ := Option.ne_none_iff_exists'.1 (h9 g hg)
      rw [uu.get ho (hG g hg)]; simp
    · exact O'.known g hg
  · rcases List.mem_append.1 hg with hg | hg
    · exact .inl hg
    · exact .inr (fF g hg)
theorem RSet_ok {h : PH} {b : Nat} {s : St} {G : List Nat} (H : RfAt h b s G) (k v : Tx) {kk : Value → PH → Prop} (hk : ∀ h' G', RfAt h' b (sSet s k v).1 G' → Upd [b] h h' → (∀ g ∈ G', g ∈ G ∨ h g = none) → kk (.int .i64 (sSet s k v).2) h') :
    CallsH PG id_carrackref11_Store_Set #[.pointer (some ⟨b, 0, none⟩), .string (tx k), .string (tx v)] h kk := by
  apply carrackref11_Store_Set.call
  unfold carrackref11_Store_Set
  have fin1 : (k.length < 1 ∨ 16 < k.length ∨ 64 < v.length) → kk (.int .i64 1) h := fun hb => by
    have := hk h G (by unfold sSet; rw [if_pos hb]; exact H) Upd.refl (fun g hg => .inl hg)
    unfold sSet at this
    rw [if_pos hb] at this
    exact this
  by_cases d1 : k.length < 1
  · have g1 : ((k.length : Int) == 0) = true := by simp; exact List.eq_nil_of_length_eq_zero (by omega)
    simp only [T_string.len, tx_size, g1, popO_some, bindH_eq, condV_bool, condV_true, condV_false, yV_bool, gopV_tt, gopV_ff, gopV_tf, gopV_ft, pickV_t, pickV_f, pickV_bool, nilS_ptr, add_eq, sub_eq, mul_eq, lss_eq, leq_eq, gtr_eq, geq_eq, not_eq, minI_eq, maxI_eq, extract_0, extract_1, extract_2, eqlI, neqI, makeFunc_eq, decide_true, decide_false, if_true, if_false, Bool.false_eq_true, Bool.not_true, Bool.not_false, reduceIte, List.getElem?_toArray, List.getElem?_cons_zero, List.getElem?_cons_succ, Option.isSome_none, List.length_map]
    exact fin1 (.inl d1)
  have g1 : ((k.length : Int) == 0) = false := by simp; rintro rfl; simp at d1
  by_cases d2 : 16 < k.length
  · have g2 : ((16 : Int) < (k.length : Int)) = True := eq_true (by omega)
    simp only [T_string.len, tx_size, g1, g2, popO_some, bindH_eq, condV_bool, condV_true, condV_false, yV_bool, gopV_tt, gopV_ff, gopV_tf, gopV_ft, pickV_t, pickV_f, pickV_bool, nilS_ptr, add_eq, sub_eq, mul_eq, lss_eq, leq_eq, gtr_eq, geq_eq, not_eq, minI_eq, maxI_eq, extract_0, extract_1, extract_2, eqlI, neqI, makeFunc_eq, decide_true, decide_false, if_true, if_false, Bool.false_eq_true, Bool.not_true, Bool.not_false, reduceIte, List.getElem?_toArray, List.getElem?_cons_zero, List.getElem?_cons_succ, Option.isSome_none, List.length_map]
    exact fin1 (.inr (.inl d2))
  have g2 : ((16 : Int) < (k.length : Int)) = False := eq_false (by omega)
  by_cases d3 : 64 < v.length
  · have g3 : ((64 : Int) < (v.length : Int)) = True := eq_true (by omega)
    simp only [T_string.len, tx_size, g1, g2, g3, popO_some, bindH_eq, condV_bool, condV_true, condV_false, yV_bool, gopV_tt, gopV_ff, gopV_tf, gopV_ft, pickV_t, pickV_f, pickV_bool, nilS_ptr, add_eq, sub_eq, mul_eq, lss_eq, leq_eq, gtr_eq, geq_eq, not_eq, minI_eq, maxI_eq, extract_0, extract_1, extract_2, eqlI, neqI, makeFunc_eq, decide_true, decide_false, if_true, if_false, Bool.false_eq_true, Bool.not_true, Bool.not_false, reduceIte, List.getElem?_toArray, List.getElem?_cons_zero, List.getElem?_cons_succ, Option.isSome_none, List.length_map]
    exact fin1 (.inr (.inr d3))
  have g3 : ((64 : Int) < (v.length : Int)) = False := eq_false (by omega)
  have hr : ¬ (k.length < 1 ∨ 16 < k.length ∨ 64 < v.length) := by omega
  have hok := H.ok
  have hH := H
  obtain ⟨A, M, B, c⟩ := hok.up.cut k
  obtain ⟨nv, bv, bl, h1, h2, h3, h4, h5, h6, h7, h8, h9⟩ := H.here
  have c0 : cellH h ⟨b, 0, none⟩ = some nv := by simp [cellH, h1]
  have hlen : s.now.length = A.length + (M.length + B.length) := by rw [c.eq]; simp
  have hfew := hok.few
  have hget := c.get hok.up
  simp only [T_string.len, tx_size, g1, g2, g3, popO_some, bindH_eq, condV_bool, condV_true, condV_false, yV_bool, gopV_tt, gopV_ff, gopV_tf, gopV_ft, pickV_t, pickV_f, pickV_bool, nilS_ptr, add_eq, sub_eq, mul_eq, lss_eq, leq_eq, gtr_eq, geq_eq, not_eq, minI_eq, maxI_eq, extract_0, extract_1, extract_2, eqlI, neqI, makeFunc_eq, decide_true, decide_false, if_true, if_false, Bool.false_eq_true, Bool.not_true, Bool.not_false, reduceIte, List.getElem?_toArray, List.getElem?_cons_zero, List.getElem?_cons_succ, Option.isSome_none, List.length_map]
  refine find_ok H c ?_
  obtain ⟨w1, x1, x2⟩ := h2.cutP (lo := some (.int .i64 (A.length : Int))) (hi := none) (a := A.length) (m := s.now.length) (.inr ⟨_, rfl⟩) (.inl ⟨rfl, rfl⟩) (by omega) (Nat.le_refl _)
  rw [List.take_length] at x2
  simp only [T_carrackref11_Store.f0, T_sl_api_Pair.load, c0, x1, popO_some, bindH_eq, condV_bool, condV_true, condV_false, yV_bool, gopV_tt, gopV_ff, gopV_tf, gopV_ft, pickV_t, pickV_f, pickV_bool, nilS_ptr, add_eq, sub_eq, mul_eq, lss_eq, leq_eq, gtr_eq, geq_eq, not_eq, minI_eq, maxI_eq, extract_0, extract_1, extract_2, eqlI, neqI, makeFunc_eq, decide_true, decide_false, if_true, if_false, Bool.false_eq_true, Bool.not_true, Bool.not_false, reduceIte, List.getElem?_toArray, List.getElem?_cons_zero, List.getElem?_cons_succ, Option.isSome_none, List.length_map]
  -- what is left, laid
  have fin : ∀ t9, SlR h 2 t9 (B.map Pr.cells) → ¬ (getL s.now k = none ∧ 4096 ≤ s.now.length) → carrackref11_Store_Set_k40 kk (.pointer (some ⟨b, 0, none⟩)) (.string (tx k)) (.string (tx v)) (.int .i64 (A.length : Int)) t9 h := by
    intro t9 S9 hc
    unfold carrackref11_Store_Set_k40
    simp only [b0_lit, popO_some, bindH_eq, condV_bool, condV_true, condV_false, yV_bool, gopV_tt, gopV_ff, gopV_tf, gopV_ft, pickV_t, pickV_f, pickV_bool, nilS_ptr, add_eq, sub_eq, mul_eq, lss_eq, leq_eq, gtr_eq, geq_eq, not_eq, minI_eq, maxI_eq, extract_0, extract_1, extract_2, eqlI, neqI, makeFunc_eq, decide_true, decide_false, if_true, if_false, Bool.false_eq_true, Bool.not_true, Bool.not_false, reduceIte, List.getElem?_toArray, List.getElem?_cons_zero, List.getElem?_cons_succ, Option.isSome_none, List.length_map]
    intro r hr'
    refine popO_pure ?_
    try rw [bindH_eq]
    have u1 : Ext h (h.set r (.cells #[] T_api_Pair)) := Upd.new hr'
    have O1 : OwnR (h.set r (.cells #[] T_api_Pair)) T_api_Pair 2 (.slice (some ⟨r, 0, none⟩) 0 0) (([] : List Pr).map Pr.cells) [r] := OwnR.lit (n := 0) (Pr.rows []) set_same (by simp) (by decide) rfl
    generalize h.set r (.cells #[] T_api_Pair) = h1' at *
    have f1 : Fresh h [r] := Fresh.one hr'
    have hb1 := u1.get h1
    have c0 : cellH h1' ⟨b, 0, none⟩ = some nv := by simp [cellH, hb1]
    obtain ⟨w2, y1, y2⟩ := (h2.ext u1).cutP (lo := none) (hi := some (.int .i64 (A.length : Int))) (a := 0) (m := A.length) (.inl ⟨rfl, rfl⟩) (.inr ⟨_, rfl⟩) (by omega) (by omega)
    have eA : (s.now.take A.length).drop 0 = A := by rw [List.drop_zero, c.eq, List.take_left]
    rw [eA] at y2
    simp only [T_carrackref11_Store.f0, T_sl_api_Pair.load, c0, y1, popO_some, bindH_eq, condV_bool, condV_true, condV_false, yV_bool, gopV_tt, gopV_ff, gopV_tf, gopV_ft, pickV_t, pickV_f, pickV_bool, nilS_ptr, add_eq, sub_eq, mul_eq, lss_eq, leq_eq, gtr_eq, geq_eq, not_eq, minI_eq, maxI_eq, extract_0, extract_1, extract_2, eqlI, neqI, makeFunc_eq, decide_true, decide_false, if_true, if_false, Bool.false_eq_true, Bool.not_true, Bool.not_false, reduceIte, List.getElem?_toArray, List.getElem?_cons_zero, List.getElem?_cons_succ, Option.isSome_none, List.length_map]
    refine app_pr O1 y2 (by simp; omega) fun v2 h2' F2 O2 u2 k2 => ?_
    rw [List.nil_append] at O2
    have e2 : Ext h h2' := u1.fresh u2 f1
    have f2 : Fresh h F2 := f1.grow u1 k2
    have hpb : SemP PG (Instr.build T_api_Pair #[(0, .string (tx k)), (1, .string (tx v))]) = some (Pr.val ⟨k, v⟩) := pr_build ⟨k, v⟩
    have hpl := pr_lit ⟨k, v⟩
    simp only [hpb, hpl, popO_some, bindH_eq, condV_bool, condV_true, condV_false, yV_bool, gopV_tt, gopV_ff, gopV_tf, gopV_ft, pickV_t, pickV_f, pickV_bool, nilS_ptr, add_eq, sub_eq, mul_eq, lss_eq, leq_eq, gtr_eq, geq_eq, not_eq, minI_eq, maxI_eq, extract_0, extract_1, extract_2, eqlI, neqI, makeFunc_eq, decide_true, decide_false, if_true, if_false, Bool.false_eq_true, Bool.not_true, Bool.not_false, reduceIte, List.getElem?_toArray, List.getElem?_cons_zero, List.getElem?_cons_succ, Option.isSome_none, List.length_map]
    intro r3 hr3
    refine popO_pure ?_
    try rw [bindH_eq]
    have u3 : Ext h2' (h2'.set r3 (.cells #[.string (tx k), .string (tx v)] T_api_Pair)) := Upd.new hr3
    have s3 : SlR (h2'.set r3 (.cells #[.string (tx k), .string (tx v)] T_api_Pair)) 2 (.slice (some ⟨r3, 0, none⟩) 1 1) ([(⟨k, v⟩ : Pr)].map Pr.cells) := (OwnR.lit (n := 1) (Pr.rows [⟨k, v⟩]) set_same (by simp) (by decide) rfl).slR
    generalize h2'.set r3 (.cells #[.string (tx k), .string (tx v)] T_api_Pair) = h3' at *
    have e3 : Ext h h3' := e2.trans u3
    refine app_pr (O2.ext u3) s3 (by simp; omega) fun v4 h4' F4 O4 u4 k4 => ?_
    have e4 : Ext h h4' := e3.fresh u4 f2
    have f4 : Fresh h F4 := f2.grow e3 k4
    refine app_pr O4 (S9.ext e4) (by simp; omega) fun v5 h5' F5 O5 u5 k5 => ?_
    have e5 : Ext h h5' := e4.fresh u5 f4
    have f5 : Fresh h F5 := f4.grow e4 k5
    have eL : (A ++ [(⟨k, v⟩ : Pr)]) ++ B = setL s.now ⟨k, v⟩ := by rw [c.set hok.up]; simp
    rw [eL] at O5
    have hb5 := e5.get h1
    have hvc : isCell v5 = true := by obtain ⟨_, _, e, _⟩ := O5.slR.here; rw [e]; rfl
    try simp only [T_carrackref11_Store.f0, popO_some, bindH_eq, condV_bool, condV_true, condV_false, yV_bool, gopV_tt, gopV_ff, gopV_tf, gopV_ft, pickV_t, pickV_f, pickV_bool, nilS_ptr, add_eq, sub_eq, mul_eq, lss_eq, leq_eq, gtr_eq, geq_eq, not_eq, minI_eq, maxI_eq, extract_0, extract_1, extract_2, eqlI, neqI, makeFunc_eq, decide_true, decide_false, if_true, if_false, Bool.false_eq_true, Bool.not_true, Bool.not_false, reduceIte, List.getElem?_toArray, List.getElem?_cons_zero, List.getElem?_cons_succ, Option.isSome_none, List.length_map]
    refine store_cell T_sl_api_Pair.und rfl hb5 (by simp) hvc T_sl_api_Pair.info T_sl_api_Pair.size ?_
    have hs : sSet s k v = ({ s with now := setL s.now ⟨k, v⟩ }, 0) := by unfold sSet; rw [if_neg hr, if_neg hc]
    rw [hs] at hk
    obtain ⟨q1, q2, q3⟩ := RfAt.now hH h1 e5 O5 f5 (hok.setOk hr hc) rfl
    exact hk _ _ q1 q2 q3
  rcases c.mid with e | ⟨q, e, e2⟩
  · have gM : decide (M ≠ []) = false := by simp [e]
    have hgn : getL s.now k = none := by rw [gM] at hget; simpa using hget
    have eB : s.now.drop A.length = B := by rw [c.eq, List.drop_left, e, List.nil_append]
    rw [eB] at x2
    have ln := h2.len (t' := T_int) T_sl_api_Pair.und
    rw [List.length_map] at ln
    by_cases d4 : 4096 ≤ s.now.length
    · have g4 : ((4096 : Int) ≤ (s.now.length : Int)) = True := eq_true (by omega)
      simp only [gM, T_carrackref11_Store.f0, T_sl_api_Pair.load, c0, ln, g4, popO_some, bindH_eq, condV_bool, condV_true, condV_false, yV_bool, gopV_tt, gopV_ff, gopV_tf, gopV_ft, pickV_t, pickV_f, pickV_bool, nilS_ptr, add_eq, sub_eq, mul_eq, lss_eq, leq_eq, gtr_eq, geq_eq, not_eq, minI_eq, maxI_eq, extract_0, extract_1, extract_2, eqlI, neqI, makeFunc_eq, decide_true, decide_false, if_true, if_false, Bool.false_eq_true, Bool.not_true, Bool.not_false, reduceIte, List.getElem?_toArray, List.getElem?_cons_zero, List.getElem?_cons_succ, Option.isSome_none, List.length_map]
      have hs : sSet s k v = (s, 2) := by unfold sSet; rw [if_neg hr, if_pos ⟨hgn, d4⟩]
      rw [hs] at hk
      exact hk h G hH Upd.refl (fun g hg => .inl hg)
    · have g4 : ((4096 : Int) ≤ (s.now.length : Int)) = False := eq_false (by omega)
      simp only [gM, T_carrackref11_Store.f0, T_sl_api_Pair.load, c0, ln, g4, popO_some, bindH_eq, condV_bool, condV_true, condV_false, yV_bool, gopV_tt, gopV_ff, gopV_tf, gopV_ft, pickV_t, pickV_f, pickV_bool, nilS_ptr, add_eq, sub_eq, mul_eq, lss_eq, leq_eq, gtr_eq, geq_eq, not_eq, minI_eq, maxI_eq, extract_0, extract_1, extract_2, eqlI, neqI, makeFunc_eq, decide_true, decide_false, if_true, if_false, Bool.false_eq_true, Bool.not_true, Bool.not_false, reduceIte, List.getElem?_toArray, List.getElem?_cons_zero, List.getElem?_cons_succ, Option.isSome_none, List.length_map]
      exact fin w1 x2 (fun h => d4 h.2)
  · have gM : decide (M ≠ []) = true := by simp [e]
    have hgn : ¬ getL s.now k = none := fun h => by rw [h, gM] at hget; simp at hget
    have gi : IntKind.i64.wrap ((A.length : Int) + 1) = ((A.length + 1 : Nat) : Int) := by rw [i64_wrap (by omega) (by omega)]; omega
    have hM1 : M.length = 1 := by rw [e]; rfl
    obtain ⟨w3, z1, z2⟩ := h2.cutP (lo := some (.int .i64 ((A.length + 1 : Nat) : Int))) (hi := none) (a := A.length + 1) (m := s.now.length) (.inr ⟨_, rfl⟩) (.inl ⟨rfl, rfl⟩) (by omega) (Nat.le_refl _)
    have eB : (s.now.take s.now.length).drop (A.length + 1) = B := by
      rw [List.take_length, c.eq, ← List.append_assoc]
      have : A.length + 1 = (A ++ M).length := by rw [List.length_append, hM1]
      rw [this, List.drop_left]
    rw [eB] at z2
    simp only [gM, T_carrackref11_Store.f0, T_sl_api_Pair.load, c0, gi, z1, popO_some, bindH_eq, condV_bool, condV_true, condV_false, yV_bool, gopV_tt, gopV_ff, gopV_tf, gopV_ft, pickV_t, pickV_f, pickV_bool, nilS_ptr, add_eq, sub_eq, mul_eq, lss_eq, leq_eq, gtr_eq, geq_eq, not_eq, minI_eq, maxI_eq, extract_0, extract_1, extract_2, eqlI, neqI, makeFunc_eq, decide_true, decide_false, if_true, if_false, Bool.false_eq_true, Bool.not_true, Bool.not_false, reduceIte, List.getElem?_toArray, List.getElem?_cons_zero, List.getElem?_cons_succ, Option.isSome_none, List.length_map]
    exact fin w3 z2 (fun h => hgn h.1)
theorem RDel_ok {h : PH} {b : Nat} {s : St} {G : List Nat} (H : RfAt h b s G) (k : Tx) {kk : Value → PH → Prop} (hk : ∀ h' G', RfAt h' b (sDel s k).1 G' → Upd [b] h h' → (∀ g ∈ G', g ∈ G ∨ h g = none) → kk (.int .i64 (sDel s k).2) h') :
    CallsH PG id_carrackref11_Store_Delete #[.pointer (some ⟨b, 0, none⟩), .string (tx k)] h kk := by
  apply carrackref11_Store_Delete.call
  unfold carrackref11_Store_Delete
  have hok := H.ok
  have hH := H
  obtain ⟨A, M, B, c⟩ := hok.up.cut k
  obtain ⟨nv, bv, bl, h1, h2, h3, h4, h5, h6, h7, h8, h9⟩ := H.here
  have c0 : cellH h ⟨b, 0, none⟩ = some nv := by simp [cellH, h1]
  have hlen : s.now.length = A.length + (M.length + B.length) := by rw [c.eq]; simp
  have hfew := hok.few
  have hget := c.get hok.up
  refine find_ok H c ?_
  rcases c.mid with e | ⟨q, e, e2⟩
  · have gM : decide (M ≠ []) = false := by simp [e]
    have hgn : getL s.now k = none := by rw [gM] at hget; simpa using hget
    simp only [gM, popO_some, bindH_eq, condV_bool, condV_true, condV_false, yV_bool, gopV_tt, gopV_ff, gopV_tf, gopV_ft, pickV_t, pickV_f, pickV_bool, nilS_ptr, add_eq, sub_eq, mul_eq, lss_eq, leq_eq, gtr_eq, geq_eq, not_eq, minI_eq, maxI_eq, extract_0, extract_1, extract_2, eqlI, neqI, makeFunc_eq, decide_true, decide_false, if_true, if_false, Bool.false_eq_true, Bool.not_true, Bool.not_false, reduceIte, List.getElem?_toArray, List.getElem?_cons_zero, List.getElem?_cons_succ, Option.isSome_none, List.length_map]
    have hs : sDel s k = (s, 3) := by unfold sDel; rw [if_pos hgn]
    rw [hs] at hk
    exact hk h G hH Upd.refl (fun g hg => .inl hg)
  · have gM : decide (M ≠ []) = true := by simp [e]
    have hgn : ¬ getL s.now k = none := fun h => by rw [h, gM] at hget; simp at hget
    have gi : IntKind.i64.wrap ((A.length : Int) + 1) = ((A.length + 1 : Nat) : Int) := by rw [i64_wrap (by omega) (by omega)]; omega
    have hM1 : M.length = 1 := by rw [e]; rfl
    obtain ⟨w3, z1, z2⟩ := h2.cutP (lo := some (.int .i64 ((A.length + 1 : Nat) : Int))) (hi := none) (a := A.length + 1) (m := s.now.length) (.inr ⟨_, rfl⟩) (.inl ⟨rfl, rfl⟩) (by omega) (Nat.le_refl _)
    have eB : (s.now.take s.now.length).drop (A.length + 1) = B := by
      rw [List.take_length, c.eq, ← List.append_assoc]
      have : A.length + 1 = (A ++ M).length := by rw [List.length_append, hM1]
      rw [this, List.drop_left]
    rw [eB] at z2
    obtain ⟨w2, y1, y2⟩ := h2.cutP (lo := none) (hi := some (.int .i64 (A.length : Int))) (a := 0) (m := A.length) (.inl ⟨rfl, rfl⟩) (.inr ⟨_, rfl⟩) (by omega) (by omega)
    have eA : (s.now.take A.length).drop 0 = A := by rw [List.drop_zero, c.eq, List.take_left]
    rw [eA] at y2
    simp only [gM, T_carrackref11_Store.f0, T_sl_api_Pair.load, c0, gi, y1, z1, b0_lit, popO_some, bindH_eq, condV_bool, condV_true, condV_false, yV_bool, gopV_tt, gopV_ff, gopV_tf, gopV_ft, pickV_t, pickV_f, pickV_bool, nilS_ptr, add_eq, sub_eq, mul_eq, lss_eq, leq_eq, gtr_eq, geq_eq, not_eq, minI_eq, maxI_eq, extract_0, extract_1, extract_2, eqlI, neqI, makeFunc_eq, decide_true, decide_false, if_true, if_false, Bool.false_eq_true, Bool.not_true, Bool.not_false, reduceIte, List.getElem?_toArray, List.getElem?_cons_zero, List.getElem?_cons_succ, Option.isSome_none, List.length_map]
    intro r hr'
    refine popO_pure ?_
    try rw [bindH_eq]
    have u1 : Ext h (h.set r (.cells #[] T_api_Pair)) := Upd.new hr'
    have O1 : OwnR (h.set r (.cells #[] T_api_Pair)) T_api_Pair 2 (.slice (some ⟨r, 0, none⟩) 0 0) (([] : List Pr).map Pr.cells) [r] := OwnR.lit (n := 0) (Pr.rows []) set_same (by simp) (by decide) rfl
    generalize h.set r (.cells #[] T_api_Pair) = h1' at *
    have f1 : Fresh h [r] := Fresh.one hr'
    refine app_pr O1 (y2.ext u1) (by simp; omega) fun v2 h2' F2 O2 u2 k2 => ?_
    rw [List.nil_append] at O2
    have e2 : Ext h h2' := u1.fresh u2 f1
    have f2 : Fresh h F2 := f1.grow u1 k2
    have hb2 := e2.get h1
    refine ⟨by simp [cellH, hb2], ?_⟩
    refine app_pr O2 (z2.ext e2) (by omega) fun v5 h5' F5 O5 u5 k5 => ?_
    have e5 : Ext h h5' := e2.fresh u5 f2
    have f5 : Fresh h F5 := f2.grow e2 k5
    rw [← c.del] at O5
    have hb5 := e5.get h1
    have hvc : isCell v5 = true := by obtain ⟨_, _, e, _⟩ := O5.slR.here; rw [e]; rfl
    try simp only [T_carrackref11_Store.f0, popO_some, bindH_eq, condV_bool, condV_true, condV_false, yV_bool, gopV_tt, gopV_ff, gopV_tf, gopV_ft, pickV_t, pickV_f, pickV_bool, nilS_ptr, add_eq, sub_eq, mul_eq, lss_eq, leq_eq, gtr_eq, geq_eq, not_eq, minI_eq, maxI_eq, extract_0, extract_1, extract_2, eqlI, neqI, makeFunc_eq, decide_true, decide_false, if_true, if_false, Bool.false_eq_true, Bool.not_true, Bool.not_false, reduceIte, List.getElem?_toArray, List.getElem?_cons_zero, List.getElem?_cons_succ, Option.isSome_none, List.length_map]
    refine store_cell T_sl_api_Pair.und rfl hb5 (by simp) hvc T_sl_api_Pair.info T_sl_api_Pair.size ?_
    have hs : sDel s k = ({ s with now := delL s.now k }, 0) := by unfold sDel; rw [if_neg hgn]
    rw [hs] at hk
    obtain ⟨q1, q2, q3⟩ := RfAt.now hH h1 e5 O5 f5 ⟨hok.up.del _, fun p hp => hok.fit p (mem_delL.1 hp).1, Nat.le_trans (List.length_filter_le _ _) hok.few, hok.blk, hok.h1, hok.h2, hok.h3, hok.h4⟩ rfl
    exact hk _ _ q1 q2 q3
theorem RHeight_ok {h : PH} {b : Nat} {s : St} {G : List Nat} (H : RfAt h b s G) {kk : Value → PH → Prop} (hk : kk (.int .u64 s.height) h) : CallsH PG id_carrackref11_Store_Height #[.pointer (some ⟨b, 0, none⟩)] h kk := by
  apply carrackref11_Store_Height.call
  unfold carrackref11_Store_Height
  have hok := H.ok
  obtain ⟨nv, bv, bl, h1, h2, h3, h4, h5, h6, h7, h8, h9⟩ := H.here
  have c1 : cellH h ⟨b, 0 + 1, none⟩ = some (.int .u64 ((s.height - (s.blocks.length - 1) : Nat) : Int)) := by simp [cellH, h1]
  have c2 : cellH h ⟨b, 0 + 2, none⟩ = some bv := by simp [cellH, h1]
  have ln := h3.len (t' := T_int) T_sl_sl_api_Pair.und
  rw [List.length_map, show bl.length = s.blocks.length by rw [← h5, List.length_map]] at ln
  have a1 := hok.h1
  have a2 := hok.h2
  have a3 := hok.h3
  have a4 := hok.h4
  have e1 : IntKind.i64.wrap ((s.blocks.length : Int) - 1) = ((s.blocks.length - 1 : Nat) : Int) := by rw [i64_wrap (by omega) (by omega)]; omega
  have e2 : IntKind.u64.wrap ((s.blocks.length - 1 : Nat) : Int) = ((s.blocks.length - 1 : Nat) : Int) := u64_wrap (by omega) (by omega)
  have e3 : IntKind.u64.wrap (((s.height - (s.blocks.length - 1) : Nat) : Int) + ((s.blocks.length - 1 : Nat) : Int)) = (s.height : Int) := by rw [u64_wrap (by omega) (by omega)]; omega
  simp only [T_carrackref11_Store.f1, T_carrackref11_Store.f2, T_uint64.load, T_sl_sl_api_Pair.load, c1, c2, ln, e1, cv_int_u64, e2, e3, popO_some, bindH_eq, condV_bool, condV_true, condV_false, yV_bool, gopV_tt, gopV_ff, gopV_tf, gopV_ft, pickV_t, pickV_f, pickV_bool, nilS_ptr, add_eq, sub_eq, mul_eq, lss_eq, leq_eq, gtr_eq, geq_eq, not_eq, minI_eq, maxI_eq, extract_0, extract_1, extract_2, eqlI, neqI, makeFunc_eq, decide_true, decide_false, if_true, if_false, Bool.false_eq_true, Bool.not_true, Bool.not_false, reduceIte, List.getElem?_toArray, List.getElem?_cons_zero, List.getElem?_cons_succ, Option.isSome_none, List.length_map]
  exact hk
end Go.Proofs.YtllopddcpkhfjaaGreatDoor
/- store: the document's Commit; a call of both; pairs; few. -/
set_option linter.unusedSimpArgs false
set_option linter.unusedVariables false
namespace Go.Proofs.YtllopddcpkhfjaaGreatDoor
open Go Bld
set_option maxRecDepth 20000
theorem app_v {h : PH} {v x : Value} {l ys : List (Value × List Pr)} {F : List Nat} (O : OwnR h T_sl_api_Pair 1 v (l.map vcell) F) (S : SlR h 1 x (ys.map vcell)) (hy : ∀ y ∈ ys, isCell y.1 = true) (hl : l.length + ys.length ≤ 1000000) {t : TypeId} {k : Value → PH → Prop}
    (hk : ∀ v' h' F', OwnR h' T_sl_api_Pair 1 v' ((l ++ ys).map vcell) F' → Upd F h h' → (∀ b ∈ F', b ∈ F ∨ h b = none) → k v' h') : SemH PG (Builtin.append_ #[T_sl_sl_api_Pair, T_sl_sl_api_Pair] t #[v, x]) h k := by
  refine append_own T_sl_sl_api_Pair.und T_sl_sl_api_Pair.und T_sl_api_Pair.info T_sl_api_Pair.size T_sl_api_Pair.bytes T_sl_api_Pair.zero rfl (by decide) O S ?_ (by simp; omega) ?_
  · intro r hr u hu
    obtain ⟨y, hyy, rfl⟩ := List.mem_map.1 hr
    simp only [vcell, List.mem_singleton] at hu
    subst hu
    exact hy y hyy
  intro v' h' F' O' u' k' _
  rw [← List.map_append] at O'
  exact hk v' h' F' O' u' k'
theorem SlR.isc {h : PH} {n : Nat} {v : Value} {rows : List (List Value)} (S : SlR h n v rows) : isCell v = true := by obtain ⟨_, _, e, _⟩ := S.here; rw [e]; rfl
theorem RCom_ok {h : PH} {b : Nat} {s : St} {G : List Nat} (H : RfAt h b s G) {kk : Value → PH → Prop} (hk : ∀ h' G', RfAt h' b (sCom s).1 G' → Upd [b] h h' → (∀ g ∈ G', g ∈ G ∨ h g = none) → kk (.tuple #[.int .u64 ((sCom s).2.1 : Int), .int .i64 (sCom s).2.2]) h') :
    CallsH PG id_carrackref11_Store_Commit #[.pointer (some ⟨b, 0, none⟩)] h kk := by
  apply carrackref11_Store_Commit.call
  unfold carrackref11_Store_Commit
  refine RHeight_ok H ?_
  have hok := H.ok
  have hH := H
  have a1 := hok.h1
  have a2 := hok.h2
  have a3 := hok.h3
  have a4 := hok.h4
  by_cases d1 : s.height = 18446744073709551615
  · have e1 : IntKind.u64.wrap ((s.height : Int) + 1) = 0 := by
      rw [d1]; rfl
    simp only [e1, show ((0 : Int) == 0) = true from rfl, popO_some, bindH_eq, condV_bool, condV_true, condV_false, yV_bool, gopV_tt, gopV_ff, gopV_tf, gopV_ft, pickV_t, pickV_f, pickV_bool, nilS_ptr, add_eq, sub_eq, mul_eq, lss_eq, leq_eq, gtr_eq, geq_eq, not_eq, minI_eq, maxI_eq, extract_0, extract_1, extract_2, eqlI, neqI, makeFunc_eq, decide_true, decide_false, if_true, if_false, Bool.false_eq_true, Bool.not_true, Bool.not_false, reduceIte, List.getElem?_toArray, List.getElem?_cons_zero, List.getElem?_cons_succ, Option.isSome_none, List.length_map]
    have hs : sCom s = (s, (0, 12)) := by unfold sCom; rw [if_pos d1]
    rw [hs] at hk
    exact hk h G hH Upd.refl (fun g hg => .inl hg)
  have e1 : IntKind.u64.wrap ((s.height : Int) + 1) = ((s.height + 1 : Nat) : Int) := by rw [u64_wrap (by omega) (by omega)]; omega
  have g1 : (((s.height + 1 : Nat) : Int) == 0) = false := by simp; omega
  obtain ⟨nv, bv, bl, h1, h2, h3, h4, h5, h6, h7, h8, h9⟩ := H.here
  have c0 : cellH h ⟨b, 0, none⟩ = some nv := by simp [cellH, h1]
  have c2 : cellH h ⟨b, 0 + 2, none⟩ = some bv := by simp [cellH, h1]
  have ln := h3.len (t' := T_int) T_sl_sl_api_Pair.und
  have hbn : bl.length = s.blocks.length := by rw [← h5, List.length_map]
  rw [List.length_map, hbn] at ln
  by_cases d2 : 4096 ≤ s.blocks.length
  · have g2 : ((4096 : Int) ≤ (s.blocks.length : Int)) = True := eq_true (by omega)
    simp only [e1, g1, T_carrackref11_Store.f2, T_sl_sl_api_Pair.load, c2, ln, g2, popO_some, bindH_eq, condV_bool, condV_true, condV_false, yV_bool, gopV_tt, gopV_ff, gopV_tf, gopV_ft, pickV_t, pickV_f, pickV_bool, nilS_ptr, add_eq, sub_eq, mul_eq, lss_eq, leq_eq, gtr_eq, geq_eq, not_eq, minI_eq, maxI_eq, extract_0, extract_1, extract_2, eqlI, neqI, makeFunc_eq, decide_true, decide_false, if_true, if_false, Bool.false_eq_true, Bool.not_true, Bool.not_false, reduceIte, List.getElem?_toArray, List.getElem?_cons_zero, List.getElem?_cons_succ, Option.isSome_none, List.length_map]
    have hs : sCom s = (s, (0, 2)) := by unfold sCom; rw [if_neg d1, if_pos d2]
    rw [hs] at hk
    exact hk h G hH Upd.refl (fun g hg => .inl hg)
  have g2 : ((4096 : Int) ≤ (s.blocks.length : Int)) = False := eq_false (by omega)
  have l0 : SemA PG (Instr.buildSlice T_sl_sl_api_Pair 0 #[]) = some (.cells #[] T_sl_api_Pair, fun r => pure (.slice (some ⟨r, 0, none⟩) 0 0)) := by kernel_rfl
  simp only [e1, g1, T_carrackref11_Store.f0, T_carrackref11_Store.f2, T_sl_api_Pair.load, T_sl_sl_api_Pair.load, c0, c2, ln, g2, l0, popO_some, bindH_eq, condV_bool, condV_true, condV_false, yV_bool, gopV_tt, gopV_ff, gopV_tf, gopV_ft, pickV_t, pickV_f, pickV_bool, nilS_ptr, add_eq, sub_eq, mul_eq, lss_eq, leq_eq, gtr_eq, geq_eq, not_eq, minI_eq, maxI_eq, extract_0, extract_1, extract_2, eqlI, neqI, makeFunc_eq, decide_true, decide_false, if_true, if_false, Bool.false_eq_true, Bool.not_true, Bool.not_false, reduceIte, List.getElem?_toArray, List.getElem?_cons_zero, List.getElem?_cons_succ, Option.isSome_none, List.length_map]
  intro r hr'
  refine popO_pure ?_
  try rw [bindH_eq]
  have u1 : Ext h (h.set r (.cells #[] T_sl_api_Pair)) := Upd.new hr'
  have O1 : OwnR (h.set r (.cells #[] T_sl_api_Pair)) T_sl_api_Pair 1 (.slice (some ⟨r, 0, none⟩) 0 0) (([] : List (Value × List Pr)).map vcell) [r] := OwnR.lit (n := 0) (vcell.rows []) set_same (by simp) (by decide) rfl
  generalize h.set r (.cells #[] T_sl_api_Pair) = h1' at *
  have f1 : Fresh h [r] := Fresh.one hr'
  refine app_v O1 (h3.ext u1) (fun y hy => (h4 y hy).1.isc) (by simp; omega) fun v2 h2' F2 O2 u2 k2 => ?_
  rw [List.nil_append] at O2
  have e2 : Ext h h2' := u1.fresh u2 f1
  have f2 : Fresh h F2 := f1.grow u1 k2
  have hb2 := e2.get h1
  refine ⟨by simp [cellH, hb2], ?_⟩
  have hnl : ∃ a n c, nv = .slice a n c := by obtain ⟨a, c, e, _⟩ := h2.here; exact ⟨a, _, c, e⟩
  have l1 : SemA PG (Instr.buildSlice T_sl_sl_api_Pair 1 #[(0, nv)]) = some (.cells #[nv] T_sl_api_Pair, fun r => pure (.slice (some ⟨r, 0, none⟩) 1 1)) := by
    obtain ⟨a, n, c, rfl⟩ := hnl
    kernel_rfl
  simp only [l1, popO_some, bindH_eq, condV_bool, condV_true, condV_false, yV_bool, gopV_tt, gopV_ff, gopV_tf, gopV_ft, pickV_t, pickV_f, pickV_bool, nilS_ptr, add_eq, sub_eq, mul_eq, lss_eq, leq_eq, gtr_eq, geq_eq, not_eq, minI_eq, maxI_eq, extract_0, extract_1, extract_2, eqlI, neqI, makeFunc_eq, decide_true, decide_false, if_true, if_false, Bool.false_eq_true, Bool.not_true, Bool.not_false, reduceIte, List.getElem?_toArray, List.getElem?_cons_zero, List.getElem?_cons_succ, Option.isSome_none, List.length_map]
  intro r3 hr3
  refine popO_pure ?_
  try rw [bindH_eq]
  have u3 : Ext h2' (h2'.set r3 (.cells #[nv] T_sl_api_Pair)) := Upd.new hr3
  have s3 : SlR (h2'.set r3 (.cells #[nv] T_sl_api_Pair)) 1 (.slice (some ⟨r3, 0, none⟩) 1 1) ([((nv : Value), s.now)].map vcell) := (OwnR.lit (n := 1) (vcell.rows [(nv, s.now)]) set_same (by simp) (by decide) rfl).slR
  generalize h2'.set r3 (.cells #[nv] T_sl_api_Pair) = h3' at *
  have e3 : Ext h h3' := e2.trans u3
  refine app_v (O2.ext u3) s3 (fun y hy => by simp only [List.mem_singleton] at hy; subst hy; exact h2.isc) (by simp; omega) fun v5 h5' F5 O5 u5 k5 => ?_
  have e5 : Ext h h5' := e3.fresh u5 f2
  have f5 : Fresh h F5 := f2.grow e3 k5
  have hb5 := e5.get h1
  try simp only [T_carrackref11_Store.f2, popO_some, bindH_eq, condV_bool, condV_true, condV_false, yV_bool, gopV_tt, gopV_ff, gopV_tf, gopV_ft, pickV_t, pickV_f, pickV_bool, nilS_ptr, add_eq, sub_eq, mul_eq, lss_eq, leq_eq, gtr_eq, geq_eq, not_eq, minI_eq, maxI_eq, extract_0, extract_1, extract_2, eqlI, neqI, makeFunc_eq, decide_true, decide_false, if_true, if_false, Bool.false_eq_true, Bool.not_true, Bool.not_false, reduceIte, List.getElem?_toArray, List.getElem?_cons_zero, List.getElem?_cons_succ, Option.isSome_none, List.length_map]
  refine store_cell T_sl_sl_api_Pair.und rfl hb5 (by simp) O5.slR.isc T_sl_sl_api_Pair.info T_sl_sl_api_Pair.size ?_
  have ew : (#[nv, .int .u64 ((s.height - (s.blocks.length - 1) : Nat) : Int), bv] : Array Value).setIfInBounds (0 + 2) v5 = #[nv, .int .u64 ((s.height - (s.blocks.length - 1) : Nat) : Int), v5] := rfl
  rw [ew]
  have u6 : Upd [b] h5' (h5'.set b (.cells #[nv, .int .u64 ((s.height - (s.blocks.length - 1) : Nat) : Int), v5] T_carrackref11_Store (0, 0))) := Upd.set (by simp)
  have b6 : (h5'.set b (.cells #[nv, .int .u64 ((s.height - (s.blocks.length - 1) : Nat) : Int), v5] T_carrackref11_Store (0, 0))) b = some (.cells #[nv, .int .u64 ((s.height - (s.blocks.length - 1) : Nat) : Int), v5] T_carrackref11_Store (0, 0)) := set_same
  generalize h5'.set b (.cells #[nv, .int .u64 ((s.height - (s.blocks.length - 1) : Nat) : Int), v5] T_carrackref11_Store (0, 0)) = h6' at *
  have hs : sCom s = ({ s with blocks := s.blocks ++ [s.now], height := s.height + 1 }, (s.height + 1, 0)) := by unfold sCom; rw [if_neg d1, if_neg d2]
  rw [hs] at hk
  have uu : Upd [b] h h6' := e5.upd.trans u6
  have hG : ∀ g ∈ G, g ∉ [b] := fun g hg => by simp only [List.mem_singleton]; rintro rfl; exact h8 hg
  have hF : ∀ g ∈ F5, g ∉ [b] := fun g hg => by
    simp only [List.mem_singleton]; rintro rfl
    have := f5 _ hg
    rw [h1] at this; cases this
  have O6 := O5.upd u6 hF
  have hnew : RfAt h6' b { s with blocks := s.blocks ++ [s.now], height := s.height + 1 } (G ++ F5) := by
    refine ⟨⟨nv, v5, bl ++ [(nv, s.now)], ?_, h2.upd uu fun a n c e => hG _ (h6 a n c e), O6.slR, fun x hx => ?_, by rw [List.map_append, h5]; rfl, fun a n c e => List.mem_append_left _ (h6 a n c e), fun a n c e => List.mem_append_right _ (inB_own O6 a n c e), ?_, fun g hg => ?_⟩, ?_⟩
    · have eh : s.height + 1 - ((s.blocks ++ [s.now]).length - 1) = s.height - (s.blocks.length - 1) := by
        simp only [List.length_append, List.length_singleton]
        omega
      show h6' b = some (.cells #[nv, .int .u64 ((s.height + 1 - ((s.blocks ++ [s.now]).length - 1) : Nat) : Int), v5] T_carrackref11_Store (0, 0))
      rw [eh]; exact b6
    · rw [List.mem_append] at hx
      rcases hx with hx | hx
      · exact ⟨(h4 x hx).1.upd uu fun a n c e => hG _ ((h4 x hx).2 a n c e), fun a n c e => List.mem_append_left _ ((h4 x hx).2 a n c e)⟩
      · simp only [List.mem_singleton] at hx
        subst hx
        exact ⟨h2.upd uu fun a n c e => hG _ (h6 a n c e), fun a n c e => List.mem_append_left _ (h6 a n c e)⟩
    · intro hm
      rcases List.mem_append.1 hm with hm | hm
      · exact h8 hm
      · exact hF _ hm (by simp)
    · rcases List.mem_append.1 hg with hg | hg
      · obtain ⟨o, ho⟩ := Option.ne_none_iff_exists'.1 (h9 g hg)
        rw [uu.get ho (hG g hg)]; simp
      · exact O6.known g hg
    · refine ⟨hok.up, hok.fit, hok.few, fun b hb => ?_, ?_, ?_, ?_, ?_⟩
      · simp only [List.mem_append, List.mem_singleton] at hb
        rcases hb with hb | rfl
        · exact hok.blk b hb
        · exact ⟨hok.up, hok.fit, hok.few⟩
      · simp
      · simp only [List.length_append, List.length_singleton]; omega
      · simp only [List.length_append, List.length_singleton]; omega
      · show s.height + 1 < 18446744073709551616
        omega
  refine RHeight_ok hnew ?_
  refine hk h6' (G ++ F5) hnew uu fun g hg => ?_
  rcases List.mem_append.1 hg with hg | hg
  · exact .inl hg
  · exact .inr (f5 g hg)
/-! ### a call of both -/
structure Ac where
  kind : Int
  key : Tx
  val : Tx
def Ac.cells (c : Ac) : List Value := [.int .i64 c.kind, .string (tx c.key), .string (tx c.val)]
def Ac.v (c : Ac) : Value := .agg c.cells.toArray
def step (s : St) (c : Ac) : St := if c.kind = 0 then (sSet s c.key c.val).1 else if c.kind = 1 then (sDel s c.key).1 else if c.kind = 2 then (sCom s).1 else s
theorem do_ok {h : PH} {a b : Nat} {s : St} {F G : List Nat} (hK : KAt h) (H : StAt h a s F) (R : RfAt h b s G) (hd : ∀ x ∈ F, x ∉ b :: G) (c : Ac) {kk : Value → PH → Prop}
    (hk : ∀ h' F' G', StAt h' a (step s c) F' → RfAt h' b (step s c) G' → (∀ x ∈ F', x ∉ b :: G') → Upd (F ++ [b]) h h' → (∀ x, x ∈ F' ∨ x ∈ G' → x ∈ F ∨ x ∈ G ∨ h x = none) → kk (.bool true) h') :
    CallsH PG id_carracklaw11_do #[.pointer (some ⟨a, 0, none⟩), .pointer (some ⟨b, 0, none⟩), c.v] h kk := by
  apply carracklaw11_do.call
  unfold carracklaw11_do
  have ec : Value.cells c.v = #[.int .i64 c.kind, .string (tx c.key), .string (tx c.val)] := rfl
  rw [ec]
  intro r hr
  try rw [bindH_eq]
  have u1 : Ext h (h.set r (.cells #[.int .i64 c.kind, .string (tx c.key), .string (tx c.val)] T_carrackref11_Act)) := Upd.new hr
  have a1 : (h.set r (.cells #[.int .i64 c.kind, .string (tx c.key), .string (tx c.val)] T_carrackref11_Act)) r = some (.cells #[.int .i64 c.kind, .string (tx c.key), .string (tx c.val)] T_carrackref11_Act (0, 0)) := set_same
  generalize h.set r (.cells #[.int .i64 c.kind, .string (tx c.key), .string (tx c.val)] T_carrackref11_Act) = h1 at *
  have c0 : cellH h1 ⟨r, 0, none⟩ = some (.int .i64 c.kind) := by simp [cellH, a1]
  have c1 : cellH h1 ⟨r, 0 + 1, none⟩ = some (.string (tx c.key)) := by simp [cellH, a1]
  have c2 : cellH h1 ⟨r, 0 + 2, none⟩ = some (.string (tx c.val)) := by simp [cellH, a1]
  have H1 := H.ext u1
  have R1 := R.ext u1
  have hrF : r ∉ F := fun hm => H.known r hm hr
  have hrb : r ≠ b := fun e => by subst e; exact R.known _ (by simp) hr
  -- both went
  have fin : ∀ {s' : St} {h2 h3 : PH} {F' G' : List Nat}, step s c = s' → StAt h2 a s' F' → Upd F h1 h2 → (∀ x ∈ F', x ∈ F ∨ h1 x = none) → RfAt h3 b s' G' → Upd [b] h2 h3 → (∀ x ∈ G', x ∈ G ∨ h2 x = none) → kk (.bool true) h3 := by
    intro s' h2 h3 F' G' es H2 u2 k2 R3 u3 k3
    subst es
    have hFb : ∀ x ∈ F', x ∉ [b] := fun x hx => by
      rcases k2 x hx with h0 | h0
      · have := hd x h0
        simp only [List.mem_cons, not_or] at this
        simpa using this.1
      · simp only [List.mem_singleton]; rintro rfl
        exact R1.known _ (by simp) h0
    have H3 := H2.upd u3 hFb
    refine hk h3 F' G' H3 R3 (fun x hx => ?_) ((u1.upd.trans (u2.mono fun b hb => .inl (by simp [hb]))).trans (u3.mono fun b hb => .inl (by simp at hb; simp [hb]))) (fun x hx => ?_)
    · simp only [List.mem_cons, not_or]
      refine ⟨by simpa using hFb x hx, fun hg => ?_⟩
      rcases k3 x hg with h0 | h0
      · rcases k2 x hx with h' | h'
        · have := hd x h'
          simp only [List.mem_cons, not_or] at this
          exact this.2 h0
        · exact R1.known x (by simp [h0]) h'
      · exact H2.known x hx h0
    · rcases hx with hx | hx
      · rcases k2 x hx with h0 | h0
        · exact .inl h0
        · exact .inr (.inr (u1.none h0))
      · rcases k3 x hx with h0 | h0
        · exact .inr (.inl h0)
        · by_cases hn : h x = none
          · exact .inr (.inr hn)
          · obtain ⟨o, ho⟩ := Option.ne_none_iff_exists'.1 hn
            by_cases hxF : x ∈ F
            · exact .inl hxF
            · rw [u2.get (u1.get ho) hxF] at h0
              cases h0
  have hRu : ∀ {h2 : PH}, Upd F h1 h2 → RfAt h2 b s G := fun u2 => R1.upd u2 (fun hm => hd b hm (by simp)) (fun g hg hm => hd g hm (by simp [hg]))
  by_cases k0 : c.kind = 0
  · have g0 : (c.kind == 0) = true := by simp [k0]
    have es : step s c = (sSet s c.key c.val).1 := by unfold step; rw [if_pos k0]
    simp only [T_carrackref11_Act.f0, T_carrackref11_Act.f1, T_carrackref11_Act.f2, T_int.load, T_string.load, c0, c1, c2, g0, popO_some, bindH_eq, condV_bool, condV_true, condV_false, yV_bool, gopV_tt, gopV_ff, gopV_tf, gopV_ft, pickV_t, pickV_f, pickV_bool, nilS_ptr, add_eq, sub_eq, mul_eq, lss_eq, leq_eq, gtr_eq, geq_eq, not_eq, minI_eq, maxI_eq, extract_0, extract_1, extract_2, eqlI, neqI, makeFunc_eq, decide_true, decide_false, if_true, if_false, Bool.false_eq_true, Bool.not_true, Bool.not_false, reduceIte, List.getElem?_toArray, List.getElem?_cons_zero, List.getElem?_cons_succ, Option.isSome_none, List.length_map]
    refine Set_ok H1 c.key c.val fun h2 H2 u2 => ?_
    have a2 := u2.get a1 hrF
    refine ⟨by simp [cellH, a2, T_string.load], by simp [cellH, a2, T_string.load], ?_⟩
    refine RSet_ok (hRu u2) c.key c.val fun h3 G3 R3 u3 k3 => ?_
    simp only [beq_self_eq_true, popO_some, bindH_eq, condV_bool, condV_true, condV_false, yV_bool, gopV_tt, gopV_ff, gopV_tf, gopV_ft, pickV_t, pickV_f, pickV_bool, nilS_ptr, add_eq, sub_eq, mul_eq, lss_eq, leq_eq, gtr_eq, geq_eq, not_eq, minI_eq, maxI_eq, extract_0, extract_1, extract_2, eqlI, neqI, makeFunc_eq, decide_true, decide_false, if_true, if_false, Bool.false_eq_true, Bool.not_true, Bool.not_false, reduceIte, List.getElem?_toArray, List.getElem?_cons_zero, List.getElem?_cons_succ, Option.isSome_none, List.length_map]
    exact fin es H2 u2 (fun x hx => .inl hx) R3 u3 k3
  have g0 : (c.kind == 0) = false := by simp [k0]
  by_cases k1 : c.kind = 1
  · have g1 : (c.kind == 1) = true := by simp [k1]
    have es : step s c = (sDel s c.key).1 := by unfold step; rw [if_neg k0, if_pos k1]
    simp only [T_carrackref11_Act.f0, T_carrackref11_Act.f1, T_carrackref11_Act.f2, T_int.load, T_string.load, c0, c1, c2, g0, g1, popO_some, bindH_eq, condV_bool, condV_true, condV_false, yV_bool, gopV_tt, gopV_ff, gopV_tf, gopV_ft, pickV_t, pickV_f, pickV_bool, nilS_ptr, add_eq, sub_eq, mul_eq, lss_eq, leq_eq, gtr_eq, geq_eq, not_eq, minI_eq, maxI_eq, extract_0, extract_1, extract_2, eqlI, neqI, makeFunc_eq, decide_true, decide_false, if_true, if_false, Bool.false_eq_true, Bool.not_true, Bool.not_false, reduceIte, List.getElem?_toArray, List.getElem?_cons_zero, List.getElem?_cons_succ, Option.isSome_none, List.length_map]
    refine Delete_ok H1 c.key fun h2 H2 u2 => ?_
    have a2 := u2.get a1 hrF
    refine ⟨by simp [cellH, a2, T_string.load], ?_⟩
    refine RDel_ok (hRu u2) c.key fun h3 G3 R3 u3 k3 => ?_
    simp only [beq_self_eq_true, popO_some, bindH_eq, condV_bool, condV_true, condV_false, yV_bool, gopV_tt, gopV_ff, gopV_tf, gopV_ft, pickV_t, pickV_f, pickV_bool, nilS_ptr, add_eq, sub_eq, mul_eq, lss_eq, leq_eq, gtr_eq, geq_eq, not_eq, minI_eq, maxI_eq, extract_0, extract_1, extract_2, eqlI, neqI, makeFunc_eq, decide_true, decide_false, if_true, if_false, Bool.false_eq_true, Bool.not_true, Bool.not_false, reduceIte, List.getElem?_toArray, List.getElem?_cons_zero, List.getElem?_cons_succ, Option.isSome_none, List.length_map]
    exact fin es H2 u2 (fun x hx => .inl hx) R3 u3 k3
  have g1 : (c.kind == 1) = false := by simp [k1]
  by_cases k2 : c.kind = 2
  · have g2 : (c.kind == 2) = true := by simp [k2]
    have es : step s c = (sCom s).1 := by unfold step; rw [if_neg k0, if_neg k1, if_pos k2]
    simp only [T_carrackref11_Act.f0, T_int.load, c0, g0, g1, g2, popO_some, bindH_eq, condV_bool, condV_true, condV_false, yV_bool, gopV_tt, gopV_ff, gopV_tf, gopV_ft, pickV_t, pickV_f, pickV_bool, nilS_ptr, add_eq, sub_eq, mul_eq, lss_eq, leq_eq, gtr_eq, geq_eq, not_eq, minI_eq, maxI_eq, extract_0, extract_1, extract_2, eqlI, neqI, makeFunc_eq, decide_true, decide_false, if_true, if_false, Bool.false_eq_true, Bool.not_true, Bool.not_false, reduceIte, List.getElem?_toArray, List.getElem?_cons_zero, List.getElem?_cons_succ, Option.isSome_none, List.length_map]
    refine Commit_ok (hK.ext u1) H1 fun h2 F2 H2 u2 k2 => ?_
    simp only [popO_some, bindH_eq, condV_bool, condV_true, condV_false, yV_bool, gopV_tt, gopV_ff, gopV_tf, gopV_ft, pickV_t, pickV_f, pickV_bool, nilS_ptr, add_eq, sub_eq, mul_eq, lss_eq, leq_eq, gtr_eq, geq_eq, not_eq, minI_eq, maxI_eq, extract_0, extract_1, extract_2, eqlI, neqI, makeFunc_eq, decide_true, decide_false, if_true, if_false, Bool.false_eq_true, Bool.not_true, Bool.not_false, reduceIte, List.getElem?_toArray, List.getElem?_cons_zero, List.getElem?_cons_succ, Option.isSome_none, List.length_map]
    refine RCom_ok (hRu u2) fun h3 G3 R3 u3 k3 => ?_
    simp only [beq_self_eq_true, popO_some, bindH_eq, condV_bool, condV_true, condV_false, yV_bool, gopV_tt, gopV_ff, gopV_tf, gopV_ft, pickV_t, pickV_f, pickV_bool, nilS_ptr, add_eq, sub_eq, mul_eq, lss_eq, leq_eq, gtr_eq, geq_eq, not_eq, minI_eq, maxI_eq, extract_0, extract_1, extract_2, eqlI, neqI, makeFunc_eq, decide_true, decide_false, if_true, if_false, Bool.false_eq_true, Bool.not_true, Bool.not_false, reduceIte, List.getElem?_toArray, List.getElem?_cons_zero, List.getElem?_cons_succ, Option.isSome_none, List.length_map]
    exact fin es H2 u2 k2 R3 u3 k3
  have g2 : (c.kind == 2) = false := by simp [k2]
  have es : step s c = s := by unfold step; rw [if_neg k0, if_neg k1, if_neg k2]
  simp only [T_carrackref11_Act.f0, T_int.load, c0, g0, g1, g2, popO_some, bindH_eq, condV_bool, condV_true, condV_false, yV_bool, gopV_tt, gopV_ff, gopV_tf, gopV_ft, pickV_t, pickV_f, pickV_bool, nilS_ptr, add_eq, sub_eq, mul_eq, lss_eq, leq_eq, gtr_eq, geq_eq, not_eq, minI_eq, maxI_eq, extract_0, extract_1, extract_2, eqlI, neqI, makeFunc_eq, decide_true, decide_false, if_true, if_false, Bool.false_eq_true, Bool.not_true, Bool.not_false, reduceIte, List.getElem?_toArray, List.getElem?_cons_zero, List.getElem?_cons_succ, Option.isSome_none, List.length_map]
  exact fin es H1 Upd.refl (fun x hx => .inl hx) R1 Upd.refl (fun x hx => .inl hx)
/-! ### pairs, few -/
theorem neqPair {h : PH} {x y : Operand} (p q : Pr) : SemE PG h (binS .neq T_api_Pair x y p.val q.val) = some (.bool (!decide (p = q))) := by
  refine neqStruct (by kernel_rfl) ?_
  rw [eqIn_struct T_api_Pair.und (by kernel_rfl) (fun f => match f.offset with | 0 => decide (p.k = q.k) | _ => decide (p.v = q.v))]
  · congr 1
    rw [Bool.eq_iff_iff]
    obtain ⟨a, b⟩ := p
    obtain ⟨a', b'⟩ := q
    simp
  · intro f hf
    simp only [List.mem_cons, List.not_mem_nil, or_false] at hf
    rcases hf with rfl | rfl
    · exact ⟨by decide, _, _, part_cell T_string.und rfl rfl, part_cell T_string.und rfl rfl, eqStr _ _⟩
    · exact ⟨by decide, _, _, part_cell T_string.und rfl rfl, part_cell T_string.und rfl rfl, eqStr _ _⟩
theorem Pairs_ok {h : PH} {v w : Value} {l : List Pr} (S : SlR h 2 v (l.map Pr.cells)) (T : SlR h 2 w (l.map Pr.cells)) {kk : Value → PH → Prop} (hk : kk (.bool true) h) : CallsH PG id_carrackref11_Pairs #[v, w] h kk := by
  apply carrackref11_Pairs.call
  unfold carrackref11_Pairs
  have lv := S.len (t' := T_int) T_sl_api_Pair.und
  have lw := T.len (t' := T_int) T_sl_api_Pair.und
  have hsm := S.small
  unfold maxL at hsm
  rw [List.length_map] at lv lw hsm
  simp only [lv, lw, bne_self_eq_false, popO_some, bindH_eq, condV_bool, condV_true, condV_false, yV_bool, gopV_tt, gopV_ff, gopV_tf, gopV_ft, pickV_t, pickV_f, pickV_bool, nilS_ptr, add_eq, sub_eq, mul_eq, lss_eq, leq_eq, gtr_eq, geq_eq, not_eq, minI_eq, maxI_eq, extract_0, extract_1, extract_2, eqlI, neqI, makeFunc_eq, decide_true, decide_false, if_true, if_false, Bool.false_eq_true, Bool.not_true, Bool.not_false, reduceIte, List.getElem?_toArray, List.getElem?_cons_zero, List.getElem?_cons_succ, Option.isSome_none, List.length_map]
  refine ⟨fun vs h' => ∃ i, i ≤ l.length ∧ vs = [v, w, .int .i64 (i : Int)] ∧ h' = h, upTo l.length 2, ⟨0, by omega, rfl, rfl⟩, ?_⟩
  rintro ρ h' ⟨i, hi, hvs, rfl⟩
  simp only [List.map_cons, List.map_nil, List.cons.injEq, and_true] at hvs
  obtain ⟨v0, v1, v5⟩ := hvs
  simp only [v0, v1, v5, List.map_cons, List.map_nil]
  unfold carrackref11_Pairs_b5
  by_cases hl : i < l.length
  · have g1 : ((i : Int) < (l.length : Int)) = True := eq_true (by omega)
    have gi : IntKind.i64.wrap ((i : Int) + 1) = ((i + 1 : Nat) : Int) := by rw [i64_wrap (by omega) (by omega)]; omega
    obtain ⟨b1, o1, p1, -, -, p4⟩ := S.pair (j := i) (p := l[i]) (List.getElem?_eq_getElem hl)
    obtain ⟨b2, o2, q1, -, -, q4⟩ := T.pair (j := i) (p := l[i]) (List.getElem?_eq_getElem hl)
    simp only [lv, g1, p1, p4, q1, q4, neqPair, gi, decide_true, popO_some, bindH_eq, condV_bool, condV_true, condV_false, yV_bool, gopV_tt, gopV_ff, gopV_tf, gopV_ft, pickV_t, pickV_f, pickV_bool, nilS_ptr, add_eq, sub_eq, mul_eq, lss_eq, leq_eq, gtr_eq, geq_eq, not_eq, minI_eq, maxI_eq, extract_0, extract_1, extract_2, eqlI, neqI, makeFunc_eq, decide_true, decide_false, if_true, if_false, Bool.false_eq_true, Bool.not_true, Bool.not_false, reduceIte, List.getElem?_toArray, List.getElem?_cons_zero, List.getElem?_cons_succ, Option.isSome_none, List.length_map]
    refine ⟨⟨i + 1, by omega, rfl, (by trivial)⟩, ?_⟩
    simp only [upTo, List.getElem?_cons_succ, List.getElem?_cons_zero]
    omega
  · have g1 : ((i : Int) < (l.length : Int)) = False := eq_false (by omega)
    simp only [lv, g1, popO_some, bindH_eq, condV_bool, condV_true, condV_false, yV_bool, gopV_tt, gopV_ff, gopV_tf, gopV_ft, pickV_t, pickV_f, pickV_bool, nilS_ptr, add_eq, sub_eq, mul_eq, lss_eq, leq_eq, gtr_eq, geq_eq, not_eq, minI_eq, maxI_eq, extract_0, extract_1, extract_2, eqlI, neqI, makeFunc_eq, decide_true, decide_false, if_true, if_false, Bool.false_eq_true, Bool.not_true, Bool.not_false, reduceIte, List.getElem?_toArray, List.getElem?_cons_zero, List.getElem?_cons_succ, Option.isSome_none, List.length_map]
    exact hk
theorem Ac.rows (l : List Ac) : Rows 3 (l.map Ac.cells) := fun r hr => by
  obtain ⟨p, -, rfl⟩ := List.mem_map.1 hr; rfl
theorem SlR.act {h : PH} {v : Value} {l : List Ac} (S : SlR h 3 v (l.map Ac.cells)) {j : Nat} {p : Ac} (hp : l[j]? = some p) :
    ∃ b o, SemP PG (Instr.indexAt T_sl_carrackref11_Act v (.int .i64 (j : Int))) = some (.pointer (some ⟨b, o, none⟩)) ∧ cellH h ⟨b, o + 1, none⟩ = some (.string (tx p.key)) ∧ cellH h ⟨b, o + 2, none⟩ = some (.string (tx p.val)) ∧ SemE PG h (Instr.loadAt T_carrackref11_Act (.pointer (some ⟨b, o, none⟩))) = some p.v := by
  obtain ⟨b, o, h1, h2, h3⟩ := S.fields T_sl_carrackref11_Act.und T_carrackref11_Act.info T_carrackref11_Act.size (k := .i64) (j := j) (r := p.cells) (by rw [List.getElem?_map, hp]; rfl)
  exact ⟨b, o, h1, h2 1 _ rfl, h2 2 _ rfl, h3 _ T_carrackref11_Act.und rfl⟩
structure Few (l : List Ac) : Prop where
  few : l.length ≤ 60
  key : ∀ c ∈ l, c.key.length ≤ 300
  val : ∀ c ∈ l, c.val.length ≤ 300
theorem few_ok {h : PH} {v : Value} {l : List Ac} (S : SlR h 3 v (l.map Ac.cells)) {kk : Value → PH → Prop} (hg : Few l → kk (.bool true) h) (hb : ¬ Few l → kk (.bool false) h) : CallsH PG id_carracklaw11_few #[v] h kk := by
  apply carracklaw11_few.call
  unfold carracklaw11_few
  have lv := S.len (t' := T_int) T_sl_carrackref11_Act.und
  rw [List.length_map] at lv
  by_cases hf : l.length ≤ 60
  · have e1 : ((60 : Int) < (l.length : Int)) = False := eq_false (by omega)
    simp only [lv, e1, popO_some, bindH_eq, condV_bool, condV_true, condV_false, yV_bool, gopV_tt, gopV_ff, gopV_tf, gopV_ft, pickV_t, pickV_f, pickV_bool, nilS_ptr, add_eq, sub_eq, mul_eq, lss_eq, leq_eq, gtr_eq, geq_eq, not_eq, minI_eq, maxI_eq, extract_0, extract_1, extract_2, eqlI, neqI, makeFunc_eq, decide_true, decide_false, if_true, if_false, Bool.false_eq_true, Bool.not_true, Bool.not_false, reduceIte, List.getElem?_toArray, List.getElem?_cons_zero, List.getElem?_cons_succ, Option.isSome_none, List.length_map]
    refine ⟨fun vs h' => ∃ i, i ≤ l.length ∧ vs = [v, .int .i64 (i : Int)] ∧ h' = h ∧ ∀ c ∈ l.take i, c.key.length ≤ 300 ∧ c.val.length ≤ 300, upTo l.length 1, ⟨0, by omega, rfl, rfl, by simp⟩, ?_⟩
    rintro ρ h' ⟨i, hi, hvs, rfl, hs⟩
    simp only [List.map_cons, List.map_nil, List.cons.injEq, and_true] at hvs
    obtain ⟨v0, v3⟩ := hvs
    simp only [v0, v3, List.map_cons, List.map_nil]
    unfold carracklaw11_few_b4
    by_cases hl : i < l.length
    · have g1 : ((i : Int) < (l.length : Int)) = True := eq_true (by omega)
      have gi : IntKind.i64.wrap ((i : Int) + 1) = ((i + 1 : Nat) : Int) := by rw [i64_wrap (by omega) (by omega)]; omega
      obtain ⟨b, o, p1, p2, p3, -⟩ := S.act (j := i) (p := l[i]) (List.getElem?_eq_getElem hl)
      have htk : l.take (i + 1) = l.take i ++ [l[i]] := List.take_succ_eq_append_getElem hl
      have hmem : l[i] ∈ l := List.getElem_mem hl
      generalize l[i] = c at *
      by_cases d1 : 300 < c.key.length
      · have g2 : ((300 : Int) < (c.key.length : Int)) = True := eq_true (by omega)
        simp only [lv, g1, p1, T_carrackref11_Act.f1, T_string.load, p2, T_string.len, tx_size, g2, popO_some, bindH_eq, condV_bool, condV_true, condV_false, yV_bool, gopV_tt, gopV_ff, gopV_tf, gopV_ft, pickV_t, pickV_f, pickV_bool, nilS_ptr, add_eq, sub_eq, mul_eq, lss_eq, leq_eq, gtr_eq, geq_eq, not_eq, minI_eq, maxI_eq, extract_0, extract_1, extract_2, eqlI, neqI, makeFunc_eq, decide_true, decide_false, if_true, if_false, Bool.false_eq_true, Bool.not_true, Bool.not_false, reduceIte, List.getElem?_toArray, List.getElem?_cons_zero, List.getElem?_cons_succ, Option.isSome_none, List.length_map]
        exact hb (fun hh => by have := hh.key c hmem; omega)
      have g2 : ((300 : Int) < (c.key.length : Int)) = False := eq_false (by omega)
      by_cases d2 : 300 < c.val.length
      · have g3 : ((300 : Int) < (c.val.length : Int)) = True := eq_true (by omega)
        simp only [lv, g1, p1, T_carrackref11_Act.f1, T_carrackref11_Act.f2, T_string.load, p2, p3, T_string.len, tx_size, g2, g3, popO_some, bindH_eq, condV_bool, condV_true, condV_false, yV_bool, gopV_tt, gopV_ff, gopV_tf, gopV_ft, pickV_t, pickV_f, pickV_bool, nilS_ptr, add_eq, sub_eq, mul_eq, lss_eq, leq_eq, gtr_eq, geq_eq, not_eq, minI_eq, maxI_eq, extract_0, extract_1, extract_2, eqlI, neqI, makeFunc_eq, decide_true, decide_false, if_true, if_false, Bool.false_eq_true, Bool.not_true, Bool.not_false, reduceIte, List.getElem?_toArray, List.getElem?_cons_zero, List.getElem?_cons_succ, Option.isSome_none, List.length_map]
        exact hb (fun hh => by have := hh.val c hmem; omega)
      have g3 : ((300 : Int) < (c.val.length : Int)) = False := eq_false (by omega)
      simp only [lv, g1, p1, T_carrackref11_Act.f1, T_carrackref11_Act.f2, T_string.load, p2, p3, T_string.len, tx_size, g2, g3, gi, popO_some, bindH_eq, condV_bool, condV_true, condV_false, yV_bool, gopV_tt, gopV_ff, gopV_tf, gopV_ft, pickV_t, pickV_f, pickV_bool, nilS_ptr, add_eq, sub_eq, mul_eq, lss_eq, leq_eq, gtr_eq, geq_eq, not_eq, minI_eq, maxI_eq, extract_0, extract_1, extract_2, eqlI, neqI, makeFunc_eq, decide_true, decide_false, if_true, if_false, Bool.false_eq_true, Bool.not_true, Bool.not_false, reduceIte, List.getElem?_toArray, List.getElem?_cons_zero, List.getElem?_cons_succ, Option.isSome_none, List.length_map]
      refine ⟨⟨i + 1, by omega, rfl, (by trivial), fun x hx => ?_⟩, ?_⟩
      · rw [htk, List.mem_append, List.mem_singleton] at hx
        rcases hx with hx | rfl
        · exact hs x hx
        · exact ⟨by omega, by omega⟩
      · simp only [upTo, List.getElem?_cons_succ, List.getElem?_cons_zero]
        omega
    · have g1 : ((i : Int) < (l.length : Int)) = False := eq_false (by omega)
      rw [List.take_of_length_le (by omega)] at hs
      simp only [lv, g1, popO_some, bindH_eq, condV_bool, condV_true, condV_false, yV_bool, gopV_tt, gopV_ff, gopV_tf, gopV_ft, pickV_t, pickV_f, pickV_bool, nilS_ptr, add_eq, sub_eq, mul_eq, lss_eq, leq_eq, gtr_eq, geq_eq, not_eq, minI_eq, maxI_eq, extract_0, extract_1, extract_2, eqlI, neqI, makeFunc_eq, decide_true, decide_false, if_true, if_false, Bool.false_eq_true, Bool.not_true, Bool.not_false, reduceIte, List.getElem?_toArray, List.getElem?_cons_zero, List.getElem?_cons_succ, Option.isSome_none, List.length_map]
      exact hg ⟨hf, fun c hc => (hs c hc).1, fun c hc => (hs c hc).2⟩
  · have e1 : ((60 : Int) < (l.length : Int)) = True := eq_true (by omega)
    simp only [lv, e1, popO_some, bindH_eq, condV_bool, condV_true, condV_false, yV_bool, gopV_tt, gopV_ff, gopV_tf, gopV_ft, pickV_t, pickV_f, pickV_bool, nilS_ptr, add_eq, sub_eq, mul_eq, lss_eq, leq_eq, gtr_eq, geq_eq, not_eq, minI_eq, maxI_eq, extract_0, extract_1, extract_2, eqlI, neqI, makeFunc_eq, decide_true, decide_false, if_true, if_false, Bool.false_eq_true, Bool.not_true, Bool.not_false, reduceIte, List.getElem?_toArray, List.getElem?_cons_zero, List.getElem?_cons_succ, Option.isSome_none, List.length_map]
    exact hb (fun hh => hf hh.few)
end Go.Proofs.YtllopddcpkhfjaaGreatDoor
/- store: the example; both stores. -/
set_option linter.unusedSimpArgs false
set_option linter.unusedVariables false
namespace Go.Proofs.YtllopddcpkhfjaaGreatDoor
open Go Bld
set_option maxRecDepth 20000
theorem ptrNil {h : PH} {x y : Operand} (a : Addr) : SemE PG h (binS .eql T_p_store_Store x y (.pointer (some a)) (.pointer none)) = some (.bool false) := by
  rw [eqlPtrNil T_p_store_Store.und]; rfl
theorem awake_ok {h : PH} (hK : KAt h) {k : Value → PH → Prop} (hk : ∀ h', Ext h h' → k (.bool true) h') : CallsH PG id_carracklaw11_awake #[] h k := by
  apply carracklaw11_awake.call
  unfold carracklaw11_awake
  refine StNew_ok 5 (by decide) hK fun a h1 F1 H1 f1 u1 => ?_
  simp only [ptrNil, popO_some, bindH_eq, condV_bool, condV_true, condV_false, yV_bool, gopV_tt, gopV_ff, gopV_tf, gopV_ft, pickV_t, pickV_f, pickV_bool, nilS_ptr, add_eq, sub_eq, mul_eq, lss_eq, leq_eq, gtr_eq, geq_eq, not_eq, minI_eq, maxI_eq, extract_0, extract_1, extract_2, eqlI, neqI, makeFunc_eq, decide_true, decide_false, if_true, if_false, Bool.false_eq_true, Bool.not_true, Bool.not_false, reduceIte, List.getElem?_toArray, List.getElem?_cons_zero, List.getElem?_cons_succ, Option.isSome_none, List.length_map]
  refine Set_ok H1 [97] [49] fun h2 H2 u2 => ?_
  have e2 := u1.fresh u2 f1
  have s2 : sSet ⟨[], [[]], 5⟩ [97] [49] = (⟨[⟨[97], [49]⟩], [[]], 5⟩, 0) := rfl
  rw [s2] at H2 ⊢
  refine Commit_ok (hK.ext e2) H2 fun h3 F3 H3 u3 k3 => ?_
  have e3 := e2.fresh u3 f1
  have s3 : sCom ⟨[⟨[97], [49]⟩], [[]], 5⟩ = (⟨[⟨[97], [49]⟩], [[], [⟨[97], [49]⟩]], 6⟩, (6, 0)) := rfl
  rw [s3] at H3 ⊢
  have at6 : sAt ⟨[⟨[97], [49]⟩], [[], [⟨[97], [49]⟩]], 6⟩ 6 = some [⟨[97], [49]⟩] := rfl
  have at5 : sAt ⟨[⟨[97], [49]⟩], [[], [⟨[97], [49]⟩]], 6⟩ 5 = some [] := rfl
  simp only [popO_some, bindH_eq, condV_bool, condV_true, condV_false, yV_bool, gopV_tt, gopV_ff, gopV_tf, gopV_ft, pickV_t, pickV_f, pickV_bool, nilS_ptr, add_eq, sub_eq, mul_eq, lss_eq, leq_eq, gtr_eq, geq_eq, not_eq, minI_eq, maxI_eq, extract_0, extract_1, extract_2, eqlI, neqI, makeFunc_eq, decide_true, decide_false, if_true, if_false, Bool.false_eq_true, Bool.not_true, Bool.not_false, reduceIte, List.getElem?_toArray, List.getElem?_cons_zero, List.getElem?_cons_succ, Option.isSome_none, List.length_map]
  refine At_ok H3 6 (by decide) (fun hn => by rw [at6] at hn; cases hn) (fun b4 v4 h4 F4 e4 O4 f4 u4 => ?_)
  rw [at6] at e4
  obtain rfl := Option.some.inj e4
  simp only [popO_some, bindH_eq, condV_bool, condV_true, condV_false, yV_bool, gopV_tt, gopV_ff, gopV_tf, gopV_ft, pickV_t, pickV_f, pickV_bool, nilS_ptr, add_eq, sub_eq, mul_eq, lss_eq, leq_eq, gtr_eq, geq_eq, not_eq, minI_eq, maxI_eq, extract_0, extract_1, extract_2, eqlI, neqI, makeFunc_eq, decide_true, decide_false, if_true, if_false, Bool.false_eq_true, Bool.not_true, Bool.not_false, reduceIte, List.getElem?_toArray, List.getElem?_cons_zero, List.getElem?_cons_succ, Option.isSome_none, List.length_map]
  refine At_ok (H3.ext u4) 5 (by decide) (fun hn => by rw [at5] at hn; cases hn) (fun b5 v5 h5 F5 e5 O5 f5 u5 => ?_)
  rw [at5] at e5
  obtain rfl := Option.some.inj e5
  have l4 := (O4.ext u5).slR.len (t' := T_int) T_sl_api_Pair.und
  have l5 := O5.slR.len (t' := T_int) T_sl_api_Pair.und
  simp only [List.map_cons, List.map_nil, List.length_cons, List.length_nil] at l4 l5
  simp only [l4, l5, show ((6 : Nat) : Int) = 6 from rfl, show (((0 + 1 : Nat) : Int) == 1) = true from rfl, show (((0 : Nat) : Int) == 0) = true from rfl, beq_self_eq_true, popO_some, bindH_eq, condV_bool, condV_true, condV_false, yV_bool, gopV_tt, gopV_ff, gopV_tf, gopV_ft, pickV_t, pickV_f, pickV_bool, nilS_ptr, add_eq, sub_eq, mul_eq, lss_eq, leq_eq, gtr_eq, geq_eq, not_eq, minI_eq, maxI_eq, extract_0, extract_1, extract_2, eqlI, neqI, makeFunc_eq, decide_true, decide_false, if_true, if_false, Bool.false_eq_true, Bool.not_true, Bool.not_false, reduceIte, List.getElem?_toArray, List.getElem?_cons_zero, List.getElem?_cons_succ, Option.isSome_none, List.length_map]
  refine Blocks_ok ((H3.ext u4).ext u5) ?_
  simp only [List.length_cons, List.length_nil, show (((0 + 1 + 1 : Nat) : Int) == 2) = true from rfl, popO_some, bindH_eq, condV_bool, condV_true, condV_false, yV_bool, gopV_tt, gopV_ff, gopV_tf, gopV_ft, pickV_t, pickV_f, pickV_bool, nilS_ptr, add_eq, sub_eq, mul_eq, lss_eq, leq_eq, gtr_eq, geq_eq, not_eq, minI_eq, maxI_eq, extract_0, extract_1, extract_2, eqlI, neqI, makeFunc_eq, decide_true, decide_false, if_true, if_false, Bool.false_eq_true, Bool.not_true, Bool.not_false, reduceIte, List.getElem?_toArray, List.getElem?_cons_zero, List.getElem?_cons_succ, Option.isSome_none, List.length_map]
  exact hk _ ((e3.trans u4).trans u5)
/-! ### both stores -/
structure DuoAt (h : PH) (a b : Nat) (s : St) (K : List Nat) : Prop where
  here : ∃ F G, StAt h a s F ∧ RfAt h b s G ∧ (∀ x ∈ F, x ∉ b :: G) ∧ K = F ++ b :: G
theorem DuoAt.upd {h h' : PH} {a b : Nat} {s : St} {K J : List Nat} (H : DuoAt h a b s K) (u : Upd J h h') (hd : ∀ x ∈ K, x ∉ J) : DuoAt h' a b s K := by
  obtain ⟨F, G, h1, h2, h3, rfl⟩ := H.here
  exact ⟨F, G, h1.upd u (fun x hx => hd x (by simp [hx])), h2.upd u (hd b (by simp)) (fun g hg => hd g (by simp [hg])), h3, rfl⟩
theorem DuoAt.ext {h h' : PH} {a b : Nat} {s : St} {K : List Nat} (H : DuoAt h a b s K) (u : Ext h h') : DuoAt h' a b s K := H.upd u (by simp)
theorem DuoAt.known {h : PH} {a b : Nat} {s : St} {K : List Nat} (H : DuoAt h a b s K) : ∀ x ∈ K, h x ≠ none := by
  obtain ⟨F, G, h1, h2, h3, rfl⟩ := H.here
  intro x hx
  rcases List.mem_append.1 hx with hx | hx
  · exact h1.known x hx
  · exact h2.known x hx
theorem DuoAt.st {h : PH} {a b : Nat} {s : St} {K : List Nat} (H : DuoAt h a b s K) : ∃ F, StAt h a s F ∧ ∀ x ∈ F, x ∈ K := by
  obtain ⟨F, G, h1, h2, h3, rfl⟩ := H.here
  exact ⟨F, h1, fun x hx => by simp [hx]⟩
theorem duo_ok {h : PH} {a b : Nat} {s : St} {K : List Nat} (hK : KAt h) (H : DuoAt h a b s K) (c : Ac) {kk : Value → PH → Prop} (hk : ∀ h' K', DuoAt h' a b (step s c) K' → Upd K h h' → (∀ x ∈ K', x ∈ K ∨ h x = none) → kk (.bool true) h') :
    CallsH PG id_carracklaw11_do #[.pointer (some ⟨a, 0, none⟩), .pointer (some ⟨b, 0, none⟩), c.v] h kk := by
  obtain ⟨F, G, h1, h2, h3, rfl⟩ := H.here
  refine do_ok hK h1 h2 h3 c fun h' F' G' q1 q2 q3 u q4 => ?_
  refine hk h' (F' ++ b :: G') ⟨F', G', q1, q2, q3, rfl⟩ (u.mono fun x hx => .inl ?_) (fun x hx => ?_)
  · simp only [List.mem_append, List.mem_cons, List.not_mem_nil, or_false] at hx ⊢
    rcases hx with hx | hx
    · exact .inl hx
    · exact .inr (.inl hx)
  · simp only [List.mem_append, List.mem_cons] at hx ⊢
    rcases hx with hx | hx | hx
    · rcases q4 x (.inl hx) with h0 | h0 | h0
      · exact .inl (.inl h0)
      · exact .inl (.inr (.inr h0))
      · exact .inr h0
    · exact .inl (.inr (.inl hx))
    · rcases q4 x (.inr hx) with h0 | h0 | h0
      · exact .inl (.inl h0)
      · exact .inl (.inr (.inr h0))
      · exact .inr h0
theorem duo_new {h : PH} {a b : Nat} {s : St} {F G : List Nat} {h' : PH} (H : StAt h a s F) (R : RfAt h' b s G) (fG : Fresh h (b :: G)) (u : Ext h h') : DuoAt h' a b s (F ++ b :: G) :=
  ⟨F, G, H.ext u, R, fun x hx hm => H.known x hx (fG x hm), rfl⟩
theorem step_cases (s : St) (c : Ac) : ((step s c).height = s.height ∧ (step s c).blocks = s.blocks) ∨ ((step s c).height = s.height + 1 ∧ (step s c).blocks = s.blocks ++ [s.now]) := by
  unfold step
  split
  · unfold sSet
    split
    · exact .inl ⟨rfl, rfl⟩
    · split <;> exact .inl ⟨rfl, rfl⟩
  · split
    · unfold sDel
      split <;> exact .inl ⟨rfl, rfl⟩
    · split
      · unfold sCom
        split
        · exact .inl ⟨rfl, rfl⟩
        · split
          · exact .inl ⟨rfl, rfl⟩
          · exact .inr ⟨rfl, rfl⟩
      · exact .inl ⟨rfl, rfl⟩
end Go.Proofs.YtllopddcpkhfjaaGreatDoor
/- store: what is read of acts and pairs; the listed variable. -/
set_option linter.unusedSimpArgs false
set_option linter.unusedVariables false
namespace Go.Proofs.YtllopddcpkhfjaaGreatDoor
open Go Go.RowKit Go.ChangeShapes
set_option maxRecDepth 20000
theorem kidsPG : Kids PG (· < PG.types.size) := kids_rows (by kernel_rfl) (by kernel_rfl)
theorem fullPG : ∀ t e, t < PG.types.size → PG.underlying t = some (.slice e) → 0 < PG.cellsOf e := slices_full_of PG (by kernel_rfl)
theorem T_int.cells : PG.cellsOf T_int = 1 := by kernel_rfl
theorem T_uint64.cells : PG.cellsOf T_uint64 = 1 := by kernel_rfl
theorem T_string.cells : PG.cellsOf T_string = 1 := by kernel_rfl
theorem T_api_Pair.cells : PG.cellsOf T_api_Pair = 2 := by kernel_rfl
theorem T_carrackref11_Act.cells : PG.cellsOf T_carrackref11_Act = 3 := by kernel_rfl
theorem Pr.of_rd {H : Type} {enc : TypeId × Value → H} {w : World} {spare : Nat → Bool} {held : Bool} {cs : List Value} (h : Rd enc PG w spare held T_api_Pair cs) : ∃ m : Pr, cs = m.cells := by
  obtain ⟨hl, hf⟩ := rd_struct T_api_Pair.und h
  rw [T_api_Pair.cells] at hl
  match cs, hl with
  | [c0, c1], _ =>
    have g0 : Rd enc PG w spare held T_string (([c0, c1].drop 0).take (PG.cellsOf T_string)) := hf 0 _ rfl
    have g1 : Rd enc PG w spare held T_string (([c0, c1].drop 1).take (PG.cellsOf T_string)) := hf 1 _ rfl
    rw [T_string.cells] at g0 g1
    obtain ⟨m0, q0, -⟩ := rd_string T_string.und g0
    obtain ⟨m1, q1, -⟩ := rd_string T_string.und g1
    simp only [List.drop_succ_cons, List.drop_zero, List.take_succ_cons, List.take_zero, List.cons.injEq, and_true] at q0 q1
    subst q0 q1
    exact ⟨⟨m0.data.toList, m1.data.toList⟩, by rw [Pr.cells, tx_list, tx_list]⟩
theorem Pr.of_rows {H : Type} {enc : TypeId × Value → H} {w : World} {spare : Nat → Bool} {held : Bool} : ∀ {rows : List (List Value)}, (∀ r ∈ rows, Rd enc PG w spare held T_api_Pair r) → ∃ xs : List Pr, rows = xs.map Pr.cells
  | [], _ => ⟨[], rfl⟩
  | r :: rs, h => by
    obtain ⟨m, rfl⟩ := Pr.of_rd (h r (by simp))
    obtain ⟨xs, rfl⟩ := Pr.of_rows (rows := rs) (fun x hx => h x (by simp [hx]))
    exact ⟨m :: xs, rfl⟩
theorem Ac.of_rd {H : Type} {enc : TypeId × Value → H} {w : World} {spare : Nat → Bool} {held : Bool} {cs : List Value} (h : Rd enc PG w spare held T_carrackref11_Act cs) : ∃ m : Ac, cs = m.cells := by
  obtain ⟨hl, hf⟩ := rd_struct T_carrackref11_Act.und h
  rw [T_carrackref11_Act.cells] at hl
  match cs, hl with
  | [c0, c1, c2], _ =>
    have g0 : Rd enc PG w spare held T_int (([c0, c1, c2].drop 0).take (PG.cellsOf T_int)) := hf 0 _ rfl
    have g1 : Rd enc PG w spare held T_string (([c0, c1, c2].drop 1).take (PG.cellsOf T_string)) := hf 1 _ rfl
    have g2 : Rd enc PG w spare held T_string (([c0, c1, c2].drop 2).take (PG.cellsOf T_string)) := hf 2 _ rfl
    rw [T_int.cells] at g0
    rw [T_string.cells] at g1 g2
    obtain ⟨m0, q0, -⟩ := rd_int T_int.und g0
    obtain ⟨m1, q1, -⟩ := rd_string T_string.und g1
    obtain ⟨m2, q2, -⟩ := rd_string T_string.und g2
    simp only [List.drop_succ_cons, List.drop_zero, List.take_succ_cons, List.take_zero, List.cons.injEq, and_true] at q0 q1 q2
    subst q0 q1 q2
    exact ⟨⟨m0, m1.data.toList, m2.data.toList⟩, by rw [Ac.cells, tx_list, tx_list]⟩
theorem Ac.of_rows {H : Type} {enc : TypeId × Value → H} {w : World} {spare : Nat → Bool} {held : Bool} : ∀ {rows : List (List Value)}, (∀ r ∈ rows, Rd enc PG w spare held T_carrackref11_Act r) → ∃ xs : List Ac, rows = xs.map Ac.cells
  | [], _ => ⟨[], rfl⟩
  | r :: rs, h => by
    obtain ⟨m, rfl⟩ := Ac.of_rd (h r (by simp))
    obtain ⟨xs, rfl⟩ := Ac.of_rows (rows := rs) (fun x hx => h x (by simp [hx]))
    exact ⟨m :: xs, rfl⟩
theorem wf_nat {a : Int} (w : (Lit.int .u64 a).wf = true) : ∃ n : Nat, a = (n : Int) ∧ n < 18446744073709551616 := by
  have : 0 ≤ a ∧ a < 18446744073709551616 := by
    revert w
    simp [Lit.wf, IntKind.min, IntKind.max, IntKind.signed, IntKind.bits]
    omega
  obtain ⟨n, rfl⟩ := Int.eq_ofNat_of_zero_le this.1
  exact ⟨n, rfl, by omega⟩
def laidL : List (String × DataW Unit) := [("carrack/sha.k", Rows.laid_carrack_sha_k)]
theorem door_met (os : Os) (args : Array Value) : laidMetH Tryz.prog laidL ((World.doorLaid Tryz.prog 400 os).forCall (fun _ _ => 0) ⟨#[], args, []⟩).memory :=
  laidMetH_of_parts3 (fuel := 8) (laidMet_of_run' 8 (by kernel_rfl) (by kernel_rfl)) (by kernel_rfl) (by kernel_rfl)
theorem kOf {W : World} (h : laidMetH Tryz.prog laidL W) : KAt (heapOf W) := by
  rw [MakeChecks.laidMetH_plain _ _ _ (by kernel_rfl)] at h
  obtain ⟨ps, h1, _⟩ := h
  obtain ⟨e, fr, hh⟩ := laid_cells (m := 3) (g := 0) (t := T_64_uint32) h1 (List.mem_cons_self ..) (by kernel_rfl) (by kernel_rfl) (by kernel_rfl)
  have hk : (flatW (Rows.laid_carrack_sha_k : DataW Unit)).toArray = (kT.map wv).toArray := by kernel_rfl
  rw [hk] at hh
  exact ⟨e, fr, hh⟩
end Go.Proofs.YtllopddcpkhfjaaGreatDoor
/- the document's sha: long numbers. -/
set_option linter.unusedSimpArgs false
set_option linter.unusedVariables false
namespace Go.Proofs.YtllopddcpkhfjaaGreatDoor
open Go
set_option maxRecDepth 20000
def ucell (n : Nat) : List Value := [.int .u64 (n : Int)]
theorem ucell.rows (l : List Nat) : Rows 1 (l.map ucell) := fun r hr => by
  obtain ⟨p, -, rfl⟩ := List.mem_map.1 hr; rfl
def dval : List Nat → Nat
  | [] => 0
  | d :: l => d + 4294967296 * dval l
def Dig (l : List Nat) : Prop := ∀ d ∈ l, d < 4294967296
theorem bpos (n : Nat) : 0 < 4294967296 ^ n := Nat.pow_pos (by decide)
theorem dval_set : ∀ (l : List Nat) (i d : Nat) (x : Nat), l[i]? = some x → dval (l.set i d) + x * 4294967296 ^ i = dval l + d * 4294967296 ^ i
  | [], i, d, x, h => by simp at h
  | a :: l, 0, d, x, h => by
    simp only [List.getElem?_cons_zero, Option.some.injEq] at h
    subst h
    simp only [List.set_cons_zero, dval, Nat.pow_zero, Nat.mul_one]
    omega
  | a :: l, i + 1, d, x, h => by
    have ih := dval_set l i d x (by simpa using h)
    simp only [List.set_cons_succ, dval]
    have e1 : x * 4294967296 ^ (i + 1) = 4294967296 * (x * 4294967296 ^ i) := by rw [Nat.pow_succ, Nat.mul_comm (4294967296 ^ i), Nat.mul_left_comm]
    have e2 : d * 4294967296 ^ (i + 1) = 4294967296 * (d * 4294967296 ^ i) := by rw [Nat.pow_succ, Nat.mul_comm (4294967296 ^ i), Nat.mul_left_comm]
    rw [e1, e2]
    omega
theorem dval_lt : ∀ {l : List Nat}, Dig l → dval l < 4294967296 ^ l.length
  | [], _ => by simp [dval]
  | a :: l, h => by
    have ih := dval_lt (l := l) fun d hd => h d (by simp [hd])
    have ha := h a (by simp)
    simp only [dval, List.length_cons, Nat.pow_succ]
    omega
theorem dval_digit : ∀ {l : List Nat}, Dig l → ∀ i, dval l / 4294967296 ^ i % 4294967296 = l.getD i 0
  | [], _, i => by simp [dval]
  | a :: l, h, 0 => by
    have ha := h a (by simp)
    simp only [dval, Nat.pow_zero, Nat.div_one, List.getD_cons_zero]
    omega
  | a :: l, h, i + 1 => by
    have ih := dval_digit (l := l) (fun d hd => h d (by simp [hd])) i
    have ha := h a (by simp)
    have e : (a + 4294967296 * dval l) / 4294967296 = dval l := by omega
    simp only [dval, List.getD_cons_succ]
    rw [Nat.pow_succ, Nat.mul_comm (4294967296 ^ i), ← Nat.div_div_eq_div_mul, e, ih]
theorem dval_take : ∀ (l : List Nat) (i x : Nat), l[i]? = some x → dval (l.take (i + 1)) = dval (l.take i) + x * 4294967296 ^ i
  | [], i, x, h => by simp at h
  | a :: l, 0, x, h => by
    simp only [List.getElem?_cons_zero, Option.some.injEq] at h
    subst h
    simp [dval]
  | a :: l, i + 1, x, h => by
    have ih := dval_take l i x (by simpa using h)
    simp only [List.take_succ_cons, dval]
    have e1 : x * 4294967296 ^ (i + 1) = 4294967296 * (x * 4294967296 ^ i) := by rw [Nat.pow_succ, Nat.mul_comm (4294967296 ^ i), Nat.mul_left_comm]
    rw [ih, e1]
    omega
theorem dval_take_le (l : List Nat) : ∀ i, dval (l.take i) ≤ dval l := by
  induction l with
  | nil => intro i; simp
  | cons a l ih =>
    intro i
    cases i with
    | zero => simp [dval]
    | succ i =>
      have := ih i
      simp only [List.take_succ_cons, dval]
      omega
theorem dval_zeros (n : Nat) : dval (List.replicate n 0) = 0 := by
  induction n with
  | zero => rfl
  | succ n ih => simp only [List.replicate_succ, dval, ih]
theorem dig_zeros (n : Nat) : Dig (List.replicate n 0) := fun d hd => by
  rw [List.mem_replicate] at hd
  omega
/-! ### in memory -/
abbrev UOwn (h : PH) (v : Value) (l : List Nat) (F : List Nat) : Prop := OwnR h T_uint64 1 v (l.map ucell) F
theorem u_at {h : PH} {v : Value} {l : List Nat} (S : SlR h 1 v (l.map ucell)) {i x : Nat} (hx : l[i]? = some x) : ∃ a, SemP PG (Instr.indexAt T_sl_uint64 v (.int .i64 (i : Int))) = some (.pointer (some a)) ∧ SemE PG h (Instr.loadAt T_uint64 (.pointer (some a))) = some (.int .u64 (x : Int)) :=
  S.loadCell (t := T_sl_uint64) (k := .i64) (j := (i : Int)) T_sl_uint64.und T_uint64.info T_uint64.size T_uint64.und rfl (by omega) (by rw [Int.toNat_natCast, List.getElem?_map, hx]; rfl)
theorem u_len {h : PH} {v : Value} {l : List Nat} (S : SlR h 1 v (l.map ucell)) : SemP PG (Builtin.len_ #[T_sl_uint64] T_int #[v]) = some (.int .i64 l.length) := by
  have := S.len (t' := T_int) T_sl_uint64.und
  rw [List.length_map] at this
  exact this
theorem u_make {h : PH} {n : Nat} (hn : n ≤ 1000) : ∃ zs, SemA PG (Instr.makeSlice T_sl_uint64 (.int .i64 n) (.int .i64 n)) = some (.cells zs T_uint64 (0, 0), fun r => pure (.slice (some ⟨r, 0, none⟩) n n)) ∧ zs.toList = ((List.replicate n 0).map ucell).flatten := by
  obtain ⟨zs', hm, hz⟩ := makeSlice_eq (P := PG) (n := n) T_sl_uint64.und T_uint64.info T_uint64.size T_uint64.bytes T_uint64.zero rfl (by decide) (by omega) (by omega)
  refine ⟨zs', hm, ?_⟩
  rw [hz, List.map_replicate]
  rfl
theorem tdivN (a b : Nat) : Int.tdiv (a : Int) (b : Int) = ((a / b : Nat) : Int) := rfl
theorem add_ok {h : PH} {v : Value} {l : List Nat} {F : List Nat} (O : UOwn h v l F) (hd : Dig l) (pos x : Nat) (hp : pos ≤ 1000) (hx : x ≤ 18446744069414584320) (hT : dval l + x * 4294967296 ^ pos < 4294967296 ^ l.length) (hl : l.length ≤ 1000) {k : Value → PH → Prop}
    (hk : ∀ h' l', UOwn h' v l' F → Dig l' → l'.length = l.length → dval l' = dval l + x * 4294967296 ^ pos → Upd F h h' → k (.tuple #[]) h') : CallsH PG id_carrackref01_add #[v, .int .i64 (pos : Int), .int .u64 (x : Int)] h k := by
  apply carrackref01_add.call
  unfold carrackref01_add
  generalize hTT : dval l + x * 4294967296 ^ pos = T at *
  refine ⟨fun vs h' => ∃ (l' : List Nat) (p y : Nat), vs = [v, .int .i64 (p : Int), .int .u64 (y : Int)] ∧ UOwn h' v l' F ∧ Dig l' ∧ l'.length = l.length ∧ p ≤ 1001 ∧ y ≤ 18446744069414584320 ∧ dval l' + y * 4294967296 ^ p = T ∧ Upd F h h', upTo l.length 1, ⟨l, pos, x, rfl, O, hd, rfl, by omega, hx, hTT, Upd.refl⟩, ?_⟩
  rintro ρ h' ⟨l', p, y, hvs, O', hd', hl', hp', hy, hv, u⟩
  simp only [List.map_cons, List.map_nil, List.cons.injEq, and_true] at hvs
  obtain ⟨v0, v1, v2⟩ := hvs
  simp only [v0, v1, v2, List.map_cons, List.map_nil]
  unfold carrackref01_add_b2
  have lv := u_len O'.slR
  by_cases h0 : y = 0
  · subst h0
    have g1 : ((0 : Int) < ((0 : Nat) : Int)) = False := eq_false (by decide)
    simp only [g1, popO_some, bindH_eq, condV_bool, condV_true, condV_false, yV_bool, gopV_tt, gopV_ff, gopV_tf, gopV_ft, pickV_t, pickV_f, pickV_bool, nilS_ptr, add_eq, sub_eq, mul_eq, lss_eq, leq_eq, gtr_eq, geq_eq, not_eq, minI_eq, maxI_eq, extract_0, extract_1, extract_2, eqlI, neqI, makeFunc_eq, decide_true, decide_false, if_true, if_false, Bool.false_eq_true, Bool.not_true, Bool.not_false, reduceIte, List.getElem?_toArray, List.getElem?_cons_zero, List.getElem?_cons_succ, Option.isSome_none, List.length_map]
    exact hk h' l' O' hd' hl' (by rw [← hv]; simp) u
  have g1 : ((0 : Int) < (y : Int)) = True := eq_true (by omega)
  by_cases hlt : p < l'.length
  · have g2 : ((p : Int) < (l'.length : Int)) = True := eq_true (by omega)
    have hx' : l'[p]? = some l'[p] := List.getElem?_eq_getElem hlt
    have hdx := hd' _ (List.getElem_mem hlt)
    generalize l'[p] = d at *
    obtain ⟨pa, p1, p2⟩ := u_at O'.slR hx'
    have e1 : Int.tmod (y : Int) 4294967296 = ((y % 4294967296 : Nat) : Int) := (Int.ofNat_tmod _ 4294967296).symm
    have e2 : IntKind.u64.wrap (((y % 4294967296 : Nat) : Int) + (d : Int)) = ((y % 4294967296 + d : Nat) : Int) := by rw [u64_wrap (by omega) (by omega)]; omega
    have e3 : Int.tdiv (y : Int) 4294967296 = ((y / 4294967296 : Nat) : Int) := rfl
    have e4 : IntKind.u64.wrap ((y / 4294967296 : Nat) : Int) = ((y / 4294967296 : Nat) : Int) := u64_wrap (by omega) (by omega)
    have e5 : IntKind.u64.wrap (((y / 4294967296 : Nat) : Int) * 4294967296) = ((y / 4294967296 * 4294967296 : Nat) : Int) := by rw [u64_wrap (by omega) (by omega)]; omega
    have e6 : IntKind.u64.wrap (((y % 4294967296 + d : Nat) : Int) + ((y / 4294967296 * 4294967296 : Nat) : Int)) = ((y + d : Nat) : Int) := by rw [u64_wrap (by omega) (by omega)]; omega
    have e7 : Int.tmod ((y + d : Nat) : Int) 4294967296 = (((y + d) % 4294967296 : Nat) : Int) := (Int.ofNat_tmod _ 4294967296).symm
    have e8 : Int.tdiv ((y + d : Nat) : Int) 4294967296 = (((y + d) / 4294967296 : Nat) : Int) := rfl
    have e9 : IntKind.u64.wrap (((y + d) / 4294967296 : Nat) : Int) = (((y + d) / 4294967296 : Nat) : Int) := u64_wrap (by omega) (by omega)
    have e10 : IntKind.i64.wrap ((p : Int) + 1) = ((p + 1 : Nat) : Int) := by rw [i64_wrap (by omega) (by omega)]; omega
    have rm : ∀ (t : TypeId) (a : Int), SemP PG (binOp .rem t (.int .u64 a) (.int .u64 4294967296)) = some (.int .u64 (a.tmod 4294967296)) := fun t a => rem_eq (by decide)
    have qu : ∀ (t : TypeId) (a : Int), SemP PG (binOp .quo t (.int .u64 a) (.int .u64 4294967296)) = some (.int .u64 (IntKind.u64.wrap (a.tdiv 4294967296))) := fun t a => quo_eq (by decide)
    obtain ⟨pb, q1, q2⟩ := O'.storeCell (t := T_sl_uint64) (k := .i64) (j := p) T_sl_uint64.und T_uint64.info T_uint64.size T_uint64.und rfl (by simpa using hlt) (x := .int .u64 (((y + d) % 4294967296 : Nat) : Int)) rfl
    rw [p1] at q1
    obtain rfl : pa = pb := by simpa using q1
    simp only [g1, lv, g2, rm, qu, e1, p1, p2, e2, e3, e4, e5, e6, e7, popO_some, bindH_eq, condV_bool, condV_true, condV_false, yV_bool, gopV_tt, gopV_ff, gopV_tf, gopV_ft, pickV_t, pickV_f, pickV_bool, nilS_ptr, add_eq, sub_eq, mul_eq, lss_eq, leq_eq, gtr_eq, geq_eq, not_eq, minI_eq, maxI_eq, extract_0, extract_1, extract_2, eqlI, neqI, makeFunc_eq, decide_true, decide_false, if_true, if_false, Bool.false_eq_true, Bool.not_true, Bool.not_false, reduceIte, List.getElem?_toArray, List.getElem?_cons_zero, List.getElem?_cons_succ, Option.isSome_none, List.length_map]
    refine q2 _ fun h2 O2 u2 => ?_
    have hrows : (l'.map ucell).take p ++ [[(.int .u64 (((y + d) % 4294967296 : Nat) : Int) : Value)]] ++ (l'.map ucell).drop (p + 1) = (l'.set p ((y + d) % 4294967296)).map ucell := by
      rw [List.set_eq_take_append_cons_drop, if_pos hlt, List.map_append, List.map_cons, List.map_take, List.map_drop]
      simp [ucell]
    rw [hrows] at O2
    simp only [e8, e9, e10, popO_some, bindH_eq, condV_bool, condV_true, condV_false, yV_bool, gopV_tt, gopV_ff, gopV_tf, gopV_ft, pickV_t, pickV_f, pickV_bool, nilS_ptr, add_eq, sub_eq, mul_eq, lss_eq, leq_eq, gtr_eq, geq_eq, not_eq, minI_eq, maxI_eq, extract_0, extract_1, extract_2, eqlI, neqI, makeFunc_eq, decide_true, decide_false, if_true, if_false, Bool.false_eq_true, Bool.not_true, Bool.not_false, reduceIte, List.getElem?_toArray, List.getElem?_cons_zero, List.getElem?_cons_succ, Option.isSome_none, List.length_map]
    refine ⟨⟨_, p + 1, (y + d) / 4294967296, rfl, O2, fun z hz => ?_, by simpa using hl', by omega, by omega, ?_, u.trans u2⟩, ?_⟩
    · rcases List.mem_or_eq_of_mem_set hz with hz | rfl
      · exact hd' z hz
      · exact Nat.mod_lt _ (by decide)
    · have := dval_set l' p ((y + d) % 4294967296) d hx'
      have e : (y + d) % 4294967296 * 4294967296 ^ p + (y + d) / 4294967296 * 4294967296 ^ (p + 1) = (y + d) * 4294967296 ^ p := by
        rw [Nat.pow_succ, Nat.mul_comm (4294967296 ^ p) 4294967296, ← Nat.mul_assoc, ← Nat.add_mul]
        congr 1
        omega
      rw [Nat.add_mul] at e
      omega
    · simp only [upTo, List.getElem?_cons_succ, List.getElem?_cons_zero]
      omega
  · exfalso
    have h1 : 4294967296 ^ l.length ≤ 4294967296 ^ p := Nat.pow_le_pow_right (by decide) (by omega)
    have h2 : 4294967296 ^ p ≤ y * 4294967296 ^ p := Nat.le_mul_of_pos_left _ (by omega)
    omega
theorem spread_ok {h : PH} {v : Value} {l : List Nat} (S : SlR h 1 v (l.map ucell)) (hs : ∀ d ∈ l, d ≤ 18446744069414584320) (hT : dval l < 4294967296 ^ (l.length + 1)) (hl : l.length ≤ 100) {k : Value → PH → Prop}
    (hk : ∀ h' v' l' F', UOwn h' v' l' F' → Dig l' → l'.length = l.length + 1 → dval l' = dval l → Fresh h F' → Ext h h' → k v' h') : CallsH PG id_carrackref01_spread #[v] h k := by
  apply carrackref01_spread.call
  unfold carrackref01_spread
  have lv := u_len S
  have e1 : IntKind.i64.wrap ((l.length : Int) + 1) = ((l.length + 1 : Nat) : Int) := by rw [i64_wrap (by omega) (by omega)]; omega
  obtain ⟨zs, m1, m2⟩ := u_make (h := h) (n := l.length + 1) (by omega)
  simp only [lv, e1, m1, popO_some, bindH_eq, condV_bool, condV_true, condV_false, yV_bool, gopV_tt, gopV_ff, gopV_tf, gopV_ft, pickV_t, pickV_f, pickV_bool, nilS_ptr, add_eq, sub_eq, mul_eq, lss_eq, leq_eq, gtr_eq, geq_eq, not_eq, minI_eq, maxI_eq, extract_0, extract_1, extract_2, eqlI, neqI, makeFunc_eq, decide_true, decide_false, if_true, if_false, Bool.false_eq_true, Bool.not_true, Bool.not_false, reduceIte, List.getElem?_toArray, List.getElem?_cons_zero, List.getElem?_cons_succ, Option.isSome_none, List.length_map]
  intro r hr
  refine popO_pure ?_
  try rw [bindH_eq]
  have u1 : Ext h (h.set r (.cells zs T_uint64 (0, 0))) := Upd.new hr
  have O1 : UOwn (h.set r (.cells zs T_uint64 (0, 0))) (.slice (some ⟨r, 0, none⟩) (l.length + 1) (l.length + 1)) (List.replicate (l.length + 1) 0) [r] := OwnR.lit (n := l.length + 1) (ucell.rows _) set_same (by simp) (by unfold maxL; omega) m2
  generalize h.set r (.cells zs T_uint64 (0, 0)) = h1 at *
  refine ⟨fun vs h' => ∃ (i : Nat) (l' : List Nat), i ≤ l.length ∧ vs = [v, .slice (some ⟨r, 0, none⟩) (l.length + 1) (l.length + 1), .int .i64 (i : Int)] ∧ UOwn h' (.slice (some ⟨r, 0, none⟩) (l.length + 1) (l.length + 1)) l' [r] ∧ Dig l' ∧ l'.length = l.length + 1 ∧ dval l' = dval (l.take i) ∧ Ext h h', upTo l.length 2, ⟨0, _, by omega, rfl, O1, dig_zeros _, by simp, by rw [dval_zeros]; rfl, u1⟩, ?_⟩
  rintro ρ h' ⟨i, l', hi, hvs, O', hd', hl', hv, u⟩
  simp only [List.map_cons, List.map_nil, List.cons.injEq, and_true] at hvs
  obtain ⟨v0, v3, v4⟩ := hvs
  simp only [v0, v3, v4, List.map_cons, List.map_nil]
  unfold carrackref01_spread_b8
  by_cases hlt : i < l.length
  · have g1 : ((i : Int) < (l.length : Int)) = True := eq_true (by omega)
    have gi : IntKind.i64.wrap ((i : Int) + 1) = ((i + 1 : Nat) : Int) := by rw [i64_wrap (by omega) (by omega)]; omega
    have hx' : l[i]? = some l[i] := List.getElem?_eq_getElem hlt
    have hdx := hs _ (List.getElem_mem hlt)
    generalize l[i] = d at *
    obtain ⟨pa, p1, p2⟩ := u_at (S.ext u) hx'
    simp only [lv, g1, p1, p2, popO_some, bindH_eq, condV_bool, condV_true, condV_false, yV_bool, gopV_tt, gopV_ff, gopV_tf, gopV_ft, pickV_t, pickV_f, pickV_bool, nilS_ptr, add_eq, sub_eq, mul_eq, lss_eq, leq_eq, gtr_eq, geq_eq, not_eq, minI_eq, maxI_eq, extract_0, extract_1, extract_2, eqlI, neqI, makeFunc_eq, decide_true, decide_false, if_true, if_false, Bool.false_eq_true, Bool.not_true, Bool.not_false, reduceIte, List.getElem?_toArray, List.getElem?_cons_zero, List.getElem?_cons_succ, Option.isSome_none, List.length_map]
    have ht := dval_take l i d hx'
    have hle := dval_take_le l (i + 1)
    refine add_ok O' hd' i d (by omega) hdx (by rw [hl', hv, ← ht]; omega) (by omega) fun h2 l2 O2 hd2 hl2 hv2 u2 => ?_
    simp only [gi, popO_some, bindH_eq, condV_bool, condV_true, condV_false, yV_bool, gopV_tt, gopV_ff, gopV_tf, gopV_ft, pickV_t, pickV_f, pickV_bool, nilS_ptr, add_eq, sub_eq, mul_eq, lss_eq, leq_eq, gtr_eq, geq_eq, not_eq, minI_eq, maxI_eq, extract_0, extract_1, extract_2, eqlI, neqI, makeFunc_eq, decide_true, decide_false, if_true, if_false, Bool.false_eq_true, Bool.not_true, Bool.not_false, reduceIte, List.getElem?_toArray, List.getElem?_cons_zero, List.getElem?_cons_succ, Option.isSome_none, List.length_map]
    refine ⟨⟨i + 1, l2, by omega, rfl, O2, hd2, by omega, by rw [hv2, hv, ht], u.fresh u2 (Fresh.one hr)⟩, ?_⟩
    simp only [upTo, List.getElem?_cons_succ, List.getElem?_cons_zero]
    omega
  · have g1 : ((i : Int) < (l.length : Int)) = False := eq_false (by omega)
    simp only [lv, g1, popO_some, bindH_eq, condV_bool, condV_true, condV_false, yV_bool, gopV_tt, gopV_ff, gopV_tf, gopV_ft, pickV_t, pickV_f, pickV_bool, nilS_ptr, add_eq, sub_eq, mul_eq, lss_eq, leq_eq, gtr_eq, geq_eq, not_eq, minI_eq, maxI_eq, extract_0, extract_1, extract_2, eqlI, neqI, makeFunc_eq, decide_true, decide_false, if_true, if_false, Bool.false_eq_true, Bool.not_true, Bool.not_false, reduceIte, List.getElem?_toArray, List.getElem?_cons_zero, List.getElem?_cons_succ, Option.isSome_none, List.length_map]
    rw [List.take_of_length_le (by omega)] at hv
    exact hk h' _ l' [r] O' hd' hl' hv (Fresh.one hr) u
theorem multiply_ok {h : PH} {v : Value} {l : List Nat} (S : SlR h 1 v (l.map ucell)) (hs : ∀ d ∈ l, d ≤ 18446744069414584320) (hT : dval l < 4294967296 ^ (l.length + 1)) (hl : l.length ≤ 50) (x : Nat) (hx : x < 137438953472) {k : Value → PH → Prop}
    (hk : ∀ h' v' l' F', UOwn h' v' l' F' → Dig l' → l'.length = l.length + 4 → dval l' = dval l * x → Fresh h F' → Ext h h' → k v' h') : CallsH PG id_carrackref01_multiply #[v, .int .u64 (x : Int)] h k := by
  apply carrackref01_multiply.call
  unfold carrackref01_multiply
  refine spread_ok S hs hT (by omega) fun h1 w p F1 O1 hd1 hl1 hv1 f1 u1 => ?_
  have S1 := O1.slR
  have lw := u_len S1
  have e1 : IntKind.i64.wrap ((p.length : Int) + 3) = ((p.length + 3 : Nat) : Int) := by rw [i64_wrap (by omega) (by omega)]; omega
  have e2 : Int.tmod (x : Int) 4294967296 = ((x % 4294967296 : Nat) : Int) := (Int.ofNat_tmod _ 4294967296).symm
  have e3 : Int.tdiv (x : Int) 4294967296 = ((x / 4294967296 : Nat) : Int) := rfl
  have e4 : IntKind.u64.wrap ((x / 4294967296 : Nat) : Int) = ((x / 4294967296 : Nat) : Int) := u64_wrap (by omega) (by omega)
  have rm : ∀ (t : TypeId) (a : Int), SemP PG (binOp .rem t (.int .u64 a) (.int .u64 4294967296)) = some (.int .u64 (a.tmod 4294967296)) := fun t a => rem_eq (by decide)
  have qu : ∀ (t : TypeId) (a : Int), SemP PG (binOp .quo t (.int .u64 a) (.int .u64 4294967296)) = some (.int .u64 (IntKind.u64.wrap (a.tdiv 4294967296))) := fun t a => quo_eq (by decide)
  obtain ⟨zs, m1, m2⟩ := u_make (h := h) (n := p.length + 3) (by omega)
  simp only [rm, qu, e2, e3, e4, lw, e1, m1, popO_some, bindH_eq, condV_bool, condV_true, condV_false, yV_bool, gopV_tt, gopV_ff, gopV_tf, gopV_ft, pickV_t, pickV_f, pickV_bool, nilS_ptr, add_eq, sub_eq, mul_eq, lss_eq, leq_eq, gtr_eq, geq_eq, not_eq, minI_eq, maxI_eq, extract_0, extract_1, extract_2, eqlI, neqI, makeFunc_eq, decide_true, decide_false, if_true, if_false, Bool.false_eq_true, Bool.not_true, Bool.not_false, reduceIte, List.getElem?_toArray, List.getElem?_cons_zero, List.getElem?_cons_succ, Option.isSome_none, List.length_map]
  intro r hr
  refine popO_pure ?_
  try rw [bindH_eq]
  have u2 : Ext h1 (h1.set r (.cells zs T_uint64 (0, 0))) := Upd.new hr
  have O2 : UOwn (h1.set r (.cells zs T_uint64 (0, 0))) (.slice (some ⟨r, 0, none⟩) (p.length + 3) (p.length + 3)) (List.replicate (p.length + 3) 0) [r] := OwnR.lit (n := p.length + 3) (ucell.rows _) set_same (by simp) (by unfold maxL; omega) m2
  generalize h1.set r (.cells zs T_uint64 (0, 0)) = h2 at *
  have hr0 : h r = none := u1.none hr
  have hpl := dval_lt hd1
  have hF1r : ∀ b ∈ F1, b ∉ [r] := fun b hb hm => by
    simp only [List.mem_singleton] at hm
    subst hm
    exact O1.known _ hb hr
  have hbig : dval p * x < 4294967296 ^ (p.length + 3) := by
    have hx2 : x < 4294967296 ^ 2 := by
      have : (4294967296 : Nat) ^ 2 = 18446744073709551616 := by decide
      omega
    calc dval p * x ≤ dval p * 4294967296 ^ 2 := Nat.mul_le_mul_left _ (by omega)
      _ < 4294967296 ^ p.length * 4294967296 ^ 2 := Nat.mul_lt_mul_of_pos_right hpl (bpos 2)
      _ = 4294967296 ^ (p.length + 2) := by rw [← Nat.pow_add]
      _ ≤ 4294967296 ^ (p.length + 3) := Nat.pow_le_pow_right (by decide) (by omega)
  refine ⟨fun vs h' => ∃ (i : Nat) (l' : List Nat), i ≤ p.length ∧ vs = [w, .int .u64 ((x % 4294967296 : Nat) : Int), .int .u64 ((x / 4294967296 : Nat) : Int), .slice (some ⟨r, 0, none⟩) (p.length + 3) (p.length + 3), .int .i64 (i : Int)] ∧ UOwn h' (.slice (some ⟨r, 0, none⟩) (p.length + 3) (p.length + 3)) l' [r] ∧ Dig l' ∧ l'.length = p.length + 3 ∧ dval l' = dval (p.take i) * x ∧ Upd [r] h2 h', upTo p.length 4, ⟨0, _, by omega, rfl, O2, dig_zeros _, by simp, by rw [dval_zeros]; simp [dval], Upd.refl⟩, ?_⟩
  rintro ρ h' ⟨i, l', hi, hvs, O', hd', hl', hv, u⟩
  simp only [List.map_cons, List.map_nil, List.cons.injEq, and_true] at hvs
  obtain ⟨v0, v5, v6, v7, v8⟩ := hvs
  simp only [v0, v5, v6, v7, v8, List.map_cons, List.map_nil]
  unfold carrackref01_multiply_b12
  have Sw := ((O1.ext u2).upd u hF1r)
  by_cases hlt : i < p.length
  · have g1 : ((i : Int) < (p.length : Int)) = True := eq_true (by omega)
    have gi : IntKind.i64.wrap ((i : Int) + 1) = ((i + 1 : Nat) : Int) := by rw [i64_wrap (by omega) (by omega)]; omega
    have hx' : p[i]? = some p[i] := List.getElem?_eq_getElem hlt
    have hdx := hd1 _ (List.getElem_mem hlt)
    generalize p[i] = d at *
    obtain ⟨pa, p1, p2⟩ := u_at Sw.slR hx'
    have hm1 : d * (x % 4294967296) ≤ 4294967295 * 4294967295 := Nat.mul_le_mul (by omega) (by omega)
    have hm2 : d * (x / 4294967296) ≤ 4294967295 * 31 := Nat.mul_le_mul (by omega) (by omega)
    have f1' : IntKind.u64.wrap ((d : Int) * ((x % 4294967296 : Nat) : Int)) = ((d * (x % 4294967296) : Nat) : Int) := by rw [← Int.natCast_mul, u64_wrap (Int.natCast_nonneg _) (by omega)]
    have f2' : IntKind.u64.wrap ((d : Int) * ((x / 4294967296 : Nat) : Int)) = ((d * (x / 4294967296) : Nat) : Int) := by rw [← Int.natCast_mul, u64_wrap (Int.natCast_nonneg _) (by omega)]
    have ht := dval_take p i d hx'
    have hle := Nat.mul_le_mul_right x (dval_take_le p (i + 1))
    have hsum : d * (x % 4294967296) * 4294967296 ^ i + d * (x / 4294967296) * 4294967296 ^ (i + 1) = d * 4294967296 ^ i * x := by
      have e : x % 4294967296 + x / 4294967296 * 4294967296 = x := by omega
      calc d * (x % 4294967296) * 4294967296 ^ i + d * (x / 4294967296) * 4294967296 ^ (i + 1)
          = d * 4294967296 ^ i * (x % 4294967296 + x / 4294967296 * 4294967296) := by rw [Nat.pow_succ, Nat.mul_add]; ac_rfl
        _ = _ := by rw [e]
    have htx : dval (p.take (i + 1)) * x = dval (p.take i) * x + d * 4294967296 ^ i * x := by rw [ht, Nat.add_mul]
    simp only [lw, g1, p1, p2, f1', popO_some, bindH_eq, condV_bool, condV_true, condV_false, yV_bool, gopV_tt, gopV_ff, gopV_tf, gopV_ft, pickV_t, pickV_f, pickV_bool, nilS_ptr, add_eq, sub_eq, mul_eq, lss_eq, leq_eq, gtr_eq, geq_eq, not_eq, minI_eq, maxI_eq, extract_0, extract_1, extract_2, eqlI, neqI, makeFunc_eq, decide_true, decide_false, if_true, if_false, Bool.false_eq_true, Bool.not_true, Bool.not_false, reduceIte, List.getElem?_toArray, List.getElem?_cons_zero, List.getElem?_cons_succ, Option.isSome_none, List.length_map]
    refine add_ok O' hd' i _ (by omega) (by omega) (by rw [hl', hv]; omega) (by omega) fun h3 l3 O3 hd3 hl3 hv3 u3 => ?_
    have Sw3 := Sw.upd u3 hF1r
    obtain ⟨pb, q1, q2⟩ := u_at Sw3.slR hx'
    rw [p1] at q1
    obtain rfl : pa = pb := by simpa using q1
    simp only [gi, p1, q2, f2', popO_some, bindH_eq, condV_bool, condV_true, condV_false, yV_bool, gopV_tt, gopV_ff, gopV_tf, gopV_ft, pickV_t, pickV_f, pickV_bool, nilS_ptr, add_eq, sub_eq, mul_eq, lss_eq, leq_eq, gtr_eq, geq_eq, not_eq, minI_eq, maxI_eq, extract_0, extract_1, extract_2, eqlI, neqI, makeFunc_eq, decide_true, decide_false, if_true, if_false, Bool.false_eq_true, Bool.not_true, Bool.not_false, reduceIte, List.getElem?_toArray, List.getElem?_cons_zero, List.getElem?_cons_succ, Option.isSome_none, List.length_map]
    refine add_ok O3 hd3 (i + 1) _ (by omega) (by omega) (by rw [hl3, hl', hv3, hv]; omega) (by omega) fun h4 l4 O4 hd4 hl4 hv4 u4 => ?_
    try simp only [gi, popO_some, bindH_eq, condV_bool, condV_true, condV_false, yV_bool, gopV_tt, gopV_ff, gopV_tf, gopV_ft, pickV_t, pickV_f, pickV_bool, nilS_ptr, add_eq, sub_eq, mul_eq, lss_eq, leq_eq, gtr_eq, geq_eq, not_eq, minI_eq, maxI_eq, extract_0, extract_1, extract_2, eqlI, neqI, makeFunc_eq, decide_true, decide_false, if_true, if_false, Bool.false_eq_true, Bool.not_true, Bool.not_false, reduceIte, List.getElem?_toArray, List.getElem?_cons_zero, List.getElem?_cons_succ, Option.isSome_none, List.length_map]
    refine ⟨⟨i + 1, l4, by omega, rfl, O4, hd4, by omega, by rw [hv4, hv3, hv]; omega, (u.trans u3).trans u4⟩, ?_⟩
    simp only [upTo, List.getElem?_cons_succ, List.getElem?_cons_zero]
    omega
  · have g1 : ((i : Int) < (p.length : Int)) = False := eq_false (by omega)
    simp only [lw, g1, popO_some, bindH_eq, condV_bool, condV_true, condV_false, yV_bool, gopV_tt, gopV_ff, gopV_tf, gopV_ft, pickV_t, pickV_f, pickV_bool, nilS_ptr, add_eq, sub_eq, mul_eq, lss_eq, leq_eq, gtr_eq, geq_eq, not_eq, minI_eq, maxI_eq, extract_0, extract_1, extract_2, eqlI, neqI, makeFunc_eq, decide_true, decide_false, if_true, if_false, Bool.false_eq_true, Bool.not_true, Bool.not_false, reduceIte, List.getElem?_toArray, List.getElem?_cons_zero, List.getElem?_cons_succ, Option.isSome_none, List.length_map]
    rw [List.take_of_length_le (by omega)] at hv
    exact hk h' _ l' [r] O' hd' (by omega) (by rw [hv, hv1]) (Fresh.one hr0) ((u1.trans u2).fresh u (Fresh.one hr0))
end Go.Proofs.YtllopddcpkhfjaaGreatDoor
/- the document's sha: the constants. -/
set_option linter.unusedSimpArgs false
set_option linter.unusedVariables false
namespace Go.Proofs.YtllopddcpkhfjaaGreatDoor
open Go
set_option maxRecDepth 20000
def P64 : List Nat := [2, 3, 5, 7, 11, 13, 17, 19, 23, 29, 31, 37, 41, 43, 47, 53, 59, 61, 67, 71, 73, 79, 83, 89, 97, 101, 103, 107, 109, 113, 127, 131, 137, 139, 149, 151, 157, 163, 167, 173, 179, 181, 191, 193, 197, 199, 211, 223, 227, 229, 233, 239, 241, 251, 257, 263, 269, 271, 277, 281, 283, 293, 307, 311]
def RT : List Nat := [5411319704, 6194414737, 7344290767, 8215976869, 9551921755, 10098905585, 11043570340, 11460697813, 12214315672, 13195500289, 13492127166, 14311783875, 14809980276, 15046980094, 15499789991, 16133124468, 16720292289, 16907126662, 17444216262, 17784676812, 17950125167, 18429019306, 18734950876, 19175934170, 19734090066, 20001703533, 20132865992, 20390182855, 20516441075, 20764397895, 21588763473, 21813078375, 22141143685, 22248366392, 22769593852, 22871018771, 23170020180, 23461497531, 23651862830, 23931792517, 24205322401, 24295138891, 24734567280, 24820601251, 24990902297, 25075189284, 25569408389, 26045227120, 26200031510, 26276752392, 26428864332, 26653801653, 26727943347, 27092625994, 27306805839, 27517677555, 27725365998, 27793908591, 27997534228, 28131656200, 28198240250, 28526537963, 28973835255, 29099129074]
def RS : List Nat := [6074000999, 7439101573, 9603838834, 11363415354, 14244795007, 15485724812, 17708603819, 18721328409]
def H8 : List W := [1779033703, 3144134277, 1013904242, 2773480762, 1359893119, 2600822924, 528734635, 1541459225]
theorem rt_all : (List.range 64).all (fun i => decide ((RT.getD i 0) ^ 3 ≤ P64.getD i 0 * 4294967296 ^ 3) && decide (P64.getD i 0 * 4294967296 ^ 3 < (RT.getD i 0 + 1) ^ 3) && decide (RT.getD i 0 % 4294967296 = (kT.getD i 0).toNat) && decide (P64.getD i 0 * 4294967296 ^ 3 < 68719476736 ^ 3) && decide (P64.getD i 0 < 4294967296)) = true := by kernel_rfl
theorem rs_all : (List.range 8).all (fun i => decide ((RS.getD i 0) ^ 2 ≤ P64.getD i 0 * 4294967296 ^ 2) && decide (P64.getD i 0 * 4294967296 ^ 2 < (RS.getD i 0 + 1) ^ 2) && decide (RS.getD i 0 % 4294967296 = (H8.getD i 0).toNat) && decide (P64.getD i 0 * 4294967296 ^ 2 < 68719476736 ^ 2)) = true := by kernel_rfl
def primesP : Nat → List Nat → Nat → Option (List Nat)
  | 0, _, _ => none
  | f + 1, out, x => if out.length < 64 then primesP f (if out.all (fun d => decide (x % d ≠ 0)) then out ++ [x] else out) (x + 1) else some out
theorem primes_val : primesP 400 [] 2 = some P64 := by kernel_rfl
theorem digit_ok {h : PH} {v : Value} {l : List Nat} (S : SlR h 1 v (l.map ucell)) (i : Nat) {k : Value → PH → Prop} (hk : k (.int .u64 ((l.getD i 0 : Nat) : Int)) h) : CallsH PG id_carrackref01_digit #[v, .int .i64 (i : Int)] h k := by
  apply carrackref01_digit.call
  unfold carrackref01_digit
  have lv := u_len S
  by_cases hl : i < l.length
  · have g1 : ((i : Int) < (l.length : Int)) = True := eq_true (by omega)
    obtain ⟨pa, p1, p2⟩ := u_at S (List.getElem?_eq_getElem hl)
    simp only [lv, g1, p1, p2, popO_some, bindH_eq, condV_bool, condV_true, condV_false, yV_bool, gopV_tt, gopV_ff, gopV_tf, gopV_ft, pickV_t, pickV_f, pickV_bool, nilS_ptr, add_eq, sub_eq, mul_eq, lss_eq, leq_eq, gtr_eq, geq_eq, not_eq, minI_eq, maxI_eq, extract_0, extract_1, extract_2, eqlI, neqI, makeFunc_eq, decide_true, decide_false, if_true, if_false, Bool.false_eq_true, Bool.not_true, Bool.not_false, reduceIte, List.getElem?_toArray, List.getElem?_cons_zero, List.getElem?_cons_succ, Option.isSome_none, List.length_map]
    rw [List.getD_eq_getElem?_getD, List.getElem?_eq_getElem hl] at hk
    exact hk
  · have g1 : ((i : Int) < (l.length : Int)) = False := eq_false (by omega)
    simp only [lv, g1, popO_some, bindH_eq, condV_bool, condV_true, condV_false, yV_bool, gopV_tt, gopV_ff, gopV_tf, gopV_ft, pickV_t, pickV_f, pickV_bool, nilS_ptr, add_eq, sub_eq, mul_eq, lss_eq, leq_eq, gtr_eq, geq_eq, not_eq, minI_eq, maxI_eq, extract_0, extract_1, extract_2, eqlI, neqI, makeFunc_eq, decide_true, decide_false, if_true, if_false, Bool.false_eq_true, Bool.not_true, Bool.not_false, reduceIte, List.getElem?_toArray, List.getElem?_cons_zero, List.getElem?_cons_succ, Option.isSome_none, List.length_map]
    rw [List.getD_eq_getElem?_getD, List.getElem?_eq_none (by omega)] at hk
    exact hk
def abTo : List Value → PH → Nat := fun vs _ => match vs[2]? with
  | some (Value.int _ x) => (x + 1).toNat
  | _ => 0
theorem above_ok {h : PH} {v w : Value} {a b : List Nat} (S : SlR h 1 v (a.map ucell)) (T : SlR h 1 w (b.map ucell)) (ha : Dig a) (hb : Dig b) (hla : a.length ≤ 1000) (hlb : b.length ≤ 1000) {k : Value → PH → Prop} (hk : k (.bool (decide (dval b < dval a))) h) : CallsH PG id_carrackref01_above #[v, w] h k := by
  apply carrackref01_above.call
  unfold carrackref01_above
  have lv := u_len S
  have lw := u_len T
  have e1 : IntKind.i64.wrap ((a.length : Int) + (b.length : Int)) = ((a.length + b.length + 1 : Nat) : Int) - 1 := by rw [i64_wrap (by omega) (by omega)]; omega
  simp only [lv, lw, e1, popO_some, bindH_eq, condV_bool, condV_true, condV_false, yV_bool, gopV_tt, gopV_ff, gopV_tf, gopV_ft, pickV_t, pickV_f, pickV_bool, nilS_ptr, add_eq, sub_eq, mul_eq, lss_eq, leq_eq, gtr_eq, geq_eq, not_eq, minI_eq, maxI_eq, extract_0, extract_1, extract_2, eqlI, neqI, makeFunc_eq, decide_true, decide_false, if_true, if_false, Bool.false_eq_true, Bool.not_true, Bool.not_false, reduceIte, List.getElem?_toArray, List.getElem?_cons_zero, List.getElem?_cons_succ, Option.isSome_none, List.length_map]
  have hA : dval a / 4294967296 ^ (a.length + b.length + 1) = dval b / 4294967296 ^ (a.length + b.length + 1) := by
    have h1 : dval a < 4294967296 ^ (a.length + b.length + 1) := Nat.lt_of_lt_of_le (dval_lt ha) (Nat.pow_le_pow_right (by decide) (by omega))
    have h2 : dval b < 4294967296 ^ (a.length + b.length + 1) := Nat.lt_of_lt_of_le (dval_lt hb) (Nat.pow_le_pow_right (by decide) (by omega))
    rw [Nat.div_eq_of_lt h1, Nat.div_eq_of_lt h2]
  refine ⟨fun vs h' => ∃ m : Nat, m ≤ 2001 ∧ vs = [v, w, .int .i64 ((m : Int) - 1)] ∧ h' = h ∧ dval a / 4294967296 ^ m = dval b / 4294967296 ^ m, abTo, ⟨_, by omega, rfl, rfl, hA⟩, ?_⟩
  rintro ρ h' ⟨m, hm, hvs, rfl, hq⟩
  simp only [List.map_cons, List.map_nil, List.cons.injEq, and_true] at hvs
  obtain ⟨v0, v1, v5⟩ := hvs
  simp only [v0, v1, v5, List.map_cons, List.map_nil]
  unfold carrackref01_above_b5
  cases m with
  | zero =>
    have g1 : ((0 : Int) ≤ ((0 : Nat) : Int) - 1) = False := eq_false (by decide)
    simp only [g1, popO_some, bindH_eq, condV_bool, condV_true, condV_false, yV_bool, gopV_tt, gopV_ff, gopV_tf, gopV_ft, pickV_t, pickV_f, pickV_bool, nilS_ptr, add_eq, sub_eq, mul_eq, lss_eq, leq_eq, gtr_eq, geq_eq, not_eq, minI_eq, maxI_eq, extract_0, extract_1, extract_2, eqlI, neqI, makeFunc_eq, decide_true, decide_false, if_true, if_false, Bool.false_eq_true, Bool.not_true, Bool.not_false, reduceIte, List.getElem?_toArray, List.getElem?_cons_zero, List.getElem?_cons_succ, Option.isSome_none, List.length_map]
    rw [Nat.pow_zero, Nat.div_one, Nat.div_one] at hq
    have : decide (dval b < dval a) = false := by simp [hq]
    rw [this] at hk
    exact hk
  | succ m =>
    have g0 : ((m + 1 : Nat) : Int) - 1 = (m : Int) := by omega
    have g1 : ((0 : Int) ≤ (m : Int)) = True := eq_true (by omega)
    have g2 : IntKind.i64.wrap ((m : Int) - 1) = (m : Int) - 1 := i64_wrap (by omega) (by omega)
    rw [g0]
    simp only [g1, popO_some, bindH_eq, condV_bool, condV_true, condV_false, yV_bool, gopV_tt, gopV_ff, gopV_tf, gopV_ft, pickV_t, pickV_f, pickV_bool, nilS_ptr, add_eq, sub_eq, mul_eq, lss_eq, leq_eq, gtr_eq, geq_eq, not_eq, minI_eq, maxI_eq, extract_0, extract_1, extract_2, eqlI, neqI, makeFunc_eq, decide_true, decide_false, if_true, if_false, Bool.false_eq_true, Bool.not_true, Bool.not_false, reduceIte, List.getElem?_toArray, List.getElem?_cons_zero, List.getElem?_cons_succ, Option.isSome_none, List.length_map]
    refine digit_ok S m ?_
    refine digit_ok T m ?_
    have da := dval_digit ha m
    have db := dval_digit hb m
    have sa : dval a / 4294967296 ^ m / 4294967296 = dval a / 4294967296 ^ (m + 1) := by rw [Nat.div_div_eq_div_mul, Nat.pow_succ]
    have sb : dval b / 4294967296 ^ m / 4294967296 = dval b / 4294967296 ^ (m + 1) := by rw [Nat.div_div_eq_div_mul, Nat.pow_succ]
    have mono : ∀ {x y : Nat}, x / 4294967296 ^ m < y / 4294967296 ^ m → x < y := fun {x y} hxy => by
      refine Nat.lt_of_not_le fun hle => ?_
      have := Nat.div_le_div_right (c := 4294967296 ^ m) hle
      omega
    generalize a.getD m 0 = p at *
    generalize b.getD m 0 = q at *
    by_cases he : p = q
    · subst he
      simp only [bne_self_eq_false, g2, popO_some, bindH_eq, condV_bool, condV_true, condV_false, yV_bool, gopV_tt, gopV_ff, gopV_tf, gopV_ft, pickV_t, pickV_f, pickV_bool, nilS_ptr, add_eq, sub_eq, mul_eq, lss_eq, leq_eq, gtr_eq, geq_eq, not_eq, minI_eq, maxI_eq, extract_0, extract_1, extract_2, eqlI, neqI, makeFunc_eq, decide_true, decide_false, if_true, if_false, Bool.false_eq_true, Bool.not_true, Bool.not_false, reduceIte, List.getElem?_toArray, List.getElem?_cons_zero, List.getElem?_cons_succ, Option.isSome_none, List.length_map]
      refine ⟨⟨m, by omega, rfl, (by trivial), ?_⟩, ?_⟩
      · omega
      · simp only [abTo, List.getElem?_cons_succ, List.getElem?_cons_zero]
        omega
    · have g3 : ((p : Int) != (q : Int)) = true := by rw [bne_iff_ne]; omega
      have g4 : decide ((q : Int) < (p : Int)) = decide (dval b < dval a) := by
        by_cases hlt : q < p
        · have : dval b < dval a := mono (by omega)
          have h2 : (q : Int) < (p : Int) := by omega
          simp only [this, h2]
        · have : dval a < dval b := mono (by omega)
          have hn : ¬ dval b < dval a := by omega
          have h2 : ¬ (q : Int) < (p : Int) := by omega
          simp only [hn, h2]
      simp only [g3, gtr_eq, g4, popO_some, bindH_eq, condV_bool, condV_true, condV_false, yV_bool, gopV_tt, gopV_ff, gopV_tf, gopV_ft, pickV_t, pickV_f, pickV_bool, nilS_ptr, add_eq, sub_eq, mul_eq, lss_eq, leq_eq, gtr_eq, geq_eq, not_eq, minI_eq, maxI_eq, extract_0, extract_1, extract_2, eqlI, neqI, makeFunc_eq, decide_true, decide_false, if_true, if_false, Bool.false_eq_true, Bool.not_true, Bool.not_false, reduceIte, List.getElem?_toArray, List.getElem?_cons_zero, List.getElem?_cons_succ, Option.isSome_none, List.length_map]
      exact hk
theorem least_ok {h : PH} (x n : Nat) (third : Bool) (hx : x ≤ 68719476736) (hn : n < 4294967296) {k : Value → PH → Prop} (hk : ∀ h', Ext h h' → k (.bool (decide (x ^ (if third then 3 else 2) ≤ n * 4294967296 ^ (if third then 3 else 2)))) h') :
    CallsH PG id_carrackref01_least #[.int .u64 (x : Int), .int .u64 (n : Int), .bool third] h k := by
  apply carrackref01_least.call
  unfold carrackref01_least
  have b1 : SemA PG (Instr.buildSlice T_sl_uint64 1 #[(0, .int .u64 (x : Int))]) = some (.cells #[.int .u64 (x : Int)] T_uint64, fun r => pure (.slice (some ⟨r, 0, none⟩) 1 1)) := by kernel_rfl
  simp only [b1, popO_some, bindH_eq, condV_bool, condV_true, condV_false, yV_bool, gopV_tt, gopV_ff, gopV_tf, gopV_ft, pickV_t, pickV_f, pickV_bool, nilS_ptr, add_eq, sub_eq, mul_eq, lss_eq, leq_eq, gtr_eq, geq_eq, not_eq, minI_eq, maxI_eq, extract_0, extract_1, extract_2, eqlI, neqI, makeFunc_eq, decide_true, decide_false, if_true, if_false, Bool.false_eq_true, Bool.not_true, Bool.not_false, reduceIte, List.getElem?_toArray, List.getElem?_cons_zero, List.getElem?_cons_succ, Option.isSome_none, List.length_map]
  intro r hr
  refine popO_pure ?_
  try rw [bindH_eq]
  have u1 : Ext h (h.set r (.cells #[.int .u64 (x : Int)] T_uint64)) := Upd.new hr
  have S1 : SlR (h.set r (.cells #[.int .u64 (x : Int)] T_uint64)) 1 (.slice (some ⟨r, 0, none⟩) 1 1) ([x].map ucell) := (OwnR.lit (n := 1) (ucell.rows [x]) set_same (by simp) (by decide) rfl).slR
  generalize h.set r (.cells #[.int .u64 (x : Int)] T_uint64) = h1 at *
  have key : ∀ t : Nat, 1 ≤ t → t ≤ 2 → (∀ h', Ext h h' → k (.bool (decide (x ^ (t + 1) ≤ n * 4294967296 ^ (t + 1)))) h') → carrackref01_least_k5 k (.int .u64 (x : Int)) (.int .u64 (n : Int)) (.slice (some ⟨r, 0, none⟩) 1 1) (.int .i64 (t : Int)) h1 := by
    intro t ht1 ht2 hkt
    unfold carrackref01_least_k5
    refine ⟨fun vs h' => ∃ (j : Nat) (w : Value) (l : List Nat), j ≤ t ∧ vs = [.int .u64 (x : Int), .int .u64 (n : Int), w, .int .i64 (t : Int), .int .i64 (j : Int)] ∧ SlR h' 1 w (l.map ucell) ∧ (∀ d ∈ l, d ≤ 18446744069414584320) ∧ dval l < 4294967296 ^ (l.length + 1) ∧ l.length ≤ 1 + 4 * j ∧ dval l = x ^ (j + 1) ∧ (1 ≤ j → Dig l) ∧ l ≠ [] ∧ Ext h h', upTo t 4, ⟨0, _, [x], by omega, rfl, S1, by simp; omega, by simp only [dval, List.length_cons, List.length_nil]; omega, by simp, by simp [dval], by omega, by simp, u1⟩, ?_⟩
    rintro ρ h' ⟨j, w, l, hj, hvs, S, hs, hd, hl, hv, hdg, hln, u⟩
    simp only [List.map_cons, List.map_nil, List.cons.injEq, and_true] at hvs
    obtain ⟨v0, v1, v7, v8, v9⟩ := hvs
    simp only [v0, v1, v7, v8, v9, List.map_cons, List.map_nil]
    unfold carrackref01_least_b7
    by_cases hlt : j < t
    · have g1 : ((j : Int) < (t : Int)) = True := eq_true (by omega)
      have gi : IntKind.i64.wrap ((j : Int) + 1) = ((j + 1 : Nat) : Int) := by rw [i64_wrap (by omega) (by omega)]; omega
      simp only [g1, popO_some, bindH_eq, condV_bool, condV_true, condV_false, yV_bool, gopV_tt, gopV_ff, gopV_tf, gopV_ft, pickV_t, pickV_f, pickV_bool, nilS_ptr, add_eq, sub_eq, mul_eq, lss_eq, leq_eq, gtr_eq, geq_eq, not_eq, minI_eq, maxI_eq, extract_0, extract_1, extract_2, eqlI, neqI, makeFunc_eq, decide_true, decide_false, if_true, if_false, Bool.false_eq_true, Bool.not_true, Bool.not_false, reduceIte, List.getElem?_toArray, List.getElem?_cons_zero, List.getElem?_cons_succ, Option.isSome_none, List.length_map]
      refine multiply_ok S hs hd (by omega) x (by omega) fun h2 w2 l2 F2 O2 hd2 hl2 hv2 f2 u2 => ?_
      simp only [gi, popO_some, bindH_eq, condV_bool, condV_true, condV_false, yV_bool, gopV_tt, gopV_ff, gopV_tf, gopV_ft, pickV_t, pickV_f, pickV_bool, nilS_ptr, add_eq, sub_eq, mul_eq, lss_eq, leq_eq, gtr_eq, geq_eq, not_eq, minI_eq, maxI_eq, extract_0, extract_1, extract_2, eqlI, neqI, makeFunc_eq, decide_true, decide_false, if_true, if_false, Bool.false_eq_true, Bool.not_true, Bool.not_false, reduceIte, List.getElem?_toArray, List.getElem?_cons_zero, List.getElem?_cons_succ, Option.isSome_none, List.length_map]
      refine ⟨⟨j + 1, w2, l2, by omega, rfl, O2.slR, fun d hd => by have := hd2 d hd; omega, Nat.lt_of_lt_of_le (dval_lt hd2) (Nat.pow_le_pow_right (by decide) (by omega)), by omega, by rw [hv2, hv, ← Nat.pow_succ], fun _ => hd2, List.ne_nil_of_length_pos (by omega), u.trans u2⟩, ?_⟩
      simp only [upTo, List.getElem?_cons_succ, List.getElem?_cons_zero]
      omega
    · have g1 : ((j : Int) < (t : Int)) = False := eq_false (by omega)
      have hjt : j = t := by omega
      subst hjt
      have g2 : IntKind.i64.wrap ((j : Int) + 2) = ((j + 2 : Nat) : Int) := by rw [i64_wrap (by omega) (by omega)]; omega
      have g3 : IntKind.i64.wrap ((j : Int) + 1) = ((j + 1 : Nat) : Int) := by rw [i64_wrap (by omega) (by omega)]; omega
      obtain ⟨zs, m1, m2⟩ := u_make (h := h) (n := j + 2) (by omega)
      simp only [g1, g2, g3, m1, popO_some, bindH_eq, condV_bool, condV_true, condV_false, yV_bool, gopV_tt, gopV_ff, gopV_tf, gopV_ft, pickV_t, pickV_f, pickV_bool, nilS_ptr, add_eq, sub_eq, mul_eq, lss_eq, leq_eq, gtr_eq, geq_eq, not_eq, minI_eq, maxI_eq, extract_0, extract_1, extract_2, eqlI, neqI, makeFunc_eq, decide_true, decide_false, if_true, if_false, Bool.false_eq_true, Bool.not_true, Bool.not_false, reduceIte, List.getElem?_toArray, List.getElem?_cons_zero, List.getElem?_cons_succ, Option.isSome_none, List.length_map]
      intro r2 hr2
      refine popO_pure ?_
      try rw [bindH_eq]
      have u2 : Ext h' (h'.set r2 (.cells zs T_uint64 (0, 0))) := Upd.new hr2
      have O2 : UOwn (h'.set r2 (.cells zs T_uint64 (0, 0))) (.slice (some ⟨r2, 0, none⟩) (j + 2) (j + 2)) (List.replicate (j + 2) 0) [r2] := OwnR.lit (n := j + 2) (ucell.rows _) set_same (by simp) (by unfold maxL; omega) m2
      generalize h'.set r2 (.cells zs T_uint64 (0, 0)) = h2 at *
      obtain ⟨pb, q1, q2⟩ := O2.storeCell (t := T_sl_uint64) (k := .i64) (j := j + 1) T_sl_uint64.und T_uint64.info T_uint64.size T_uint64.und rfl (by simp) (x := .int .u64 (n : Int)) rfl
      simp only [q1, popO_some, bindH_eq, condV_bool, condV_true, condV_false, yV_bool, gopV_tt, gopV_ff, gopV_tf, gopV_ft, pickV_t, pickV_f, pickV_bool, nilS_ptr, add_eq, sub_eq, mul_eq, lss_eq, leq_eq, gtr_eq, geq_eq, not_eq, minI_eq, maxI_eq, extract_0, extract_1, extract_2, eqlI, neqI, makeFunc_eq, decide_true, decide_false, if_true, if_false, Bool.false_eq_true, Bool.not_true, Bool.not_false, reduceIte, List.getElem?_toArray, List.getElem?_cons_zero, List.getElem?_cons_succ, Option.isSome_none, List.length_map]
      refine q2 _ fun h3 O3 u3 => ?_
      have hrows : ((List.replicate (j + 2) 0).map ucell).take (j + 1) ++ [[(.int .u64 (n : Int) : Value)]] ++ ((List.replicate (j + 2) 0).map ucell).drop (j + 1 + 1) = ((List.replicate (j + 2) 0).set (j + 1) n).map ucell := by
        rw [List.set_eq_take_append_cons_drop, if_pos (by simp), List.map_append, List.map_cons, List.map_take, List.map_drop]
        simp [ucell]
      rw [hrows] at O3
      have hdw : Dig ((List.replicate (j + 2) 0).set (j + 1) n) := fun z hz => by
        rcases List.mem_or_eq_of_mem_set hz with hz | rfl
        · exact dig_zeros _ z hz
        · exact hn
      have hvw : dval ((List.replicate (j + 2) 0).set (j + 1) n) = n * 4294967296 ^ (j + 1) := by
        have := dval_set (List.replicate (j + 2) 0) (j + 1) n 0 (by rw [List.getElem?_replicate]; simp)
        rw [dval_zeros] at this
        omega
      have hr0 : h r2 = none := u.none hr2
      have S3 := (S.ext u2).upd u3 (fun a n' c e => by
        simp only [List.mem_singleton]
        intro hh
        obtain ⟨a0, c0, e0, _, _, hx0, _⟩ := S.here
        rw [e0] at e
        have hne : (l.map ucell) ≠ [] := by simpa using hln
        obtain ⟨b, o, cs, e', fr, ha0, hb0, _⟩ := hx0 hne
        rw [ha0] at e
        simp only [Value.slice.injEq, Option.some.injEq] at e
        rw [← e.1] at hh
        simp only at hh
        rw [hh, hr2] at hb0
        cases hb0)
      refine above_ok S3 O3.slR (hdg ht1) hdw (by omega) (by simp; omega) ?_
      have hfin := hkt h3 ((u.trans u2).fresh u3 (Fresh.one hr0))
      have e9 : (!decide (dval ((List.replicate (j + 2) 0).set (j + 1) n) < dval l)) = decide (x ^ (j + 1) ≤ n * 4294967296 ^ (j + 1)) := by
        rw [hvw, hv, Bool.eq_iff_iff]
        simp
      simp only [e9, popO_some, bindH_eq, condV_bool, condV_true, condV_false, yV_bool, gopV_tt, gopV_ff, gopV_tf, gopV_ft, pickV_t, pickV_f, pickV_bool, nilS_ptr, add_eq, sub_eq, mul_eq, lss_eq, leq_eq, gtr_eq, geq_eq, not_eq, minI_eq, maxI_eq, extract_0, extract_1, extract_2, eqlI, neqI, makeFunc_eq, decide_true, decide_false, if_true, if_false, Bool.false_eq_true, Bool.not_true, Bool.not_false, reduceIte, List.getElem?_toArray, List.getElem?_cons_zero, List.getElem?_cons_succ, Option.isSome_none, List.length_map]
      exact hfin
  cases third with
  | true =>
    simp only [popO_some, bindH_eq, condV_bool, condV_true, condV_false, yV_bool, gopV_tt, gopV_ff, gopV_tf, gopV_ft, pickV_t, pickV_f, pickV_bool, nilS_ptr, add_eq, sub_eq, mul_eq, lss_eq, leq_eq, gtr_eq, geq_eq, not_eq, minI_eq, maxI_eq, extract_0, extract_1, extract_2, eqlI, neqI, makeFunc_eq, decide_true, decide_false, if_true, if_false, Bool.false_eq_true, Bool.not_true, Bool.not_false, reduceIte, List.getElem?_toArray, List.getElem?_cons_zero, List.getElem?_cons_succ, Option.isSome_none, List.length_map]
    exact key 2 (by omega) (by omega) hk
  | false =>
    simp only [popO_some, bindH_eq, condV_bool, condV_true, condV_false, yV_bool, gopV_tt, gopV_ff, gopV_tf, gopV_ft, pickV_t, pickV_f, pickV_bool, nilS_ptr, add_eq, sub_eq, mul_eq, lss_eq, leq_eq, gtr_eq, geq_eq, not_eq, minI_eq, maxI_eq, extract_0, extract_1, extract_2, eqlI, neqI, makeFunc_eq, decide_true, decide_false, if_true, if_false, Bool.false_eq_true, Bool.not_true, Bool.not_false, reduceIte, List.getElem?_toArray, List.getElem?_cons_zero, List.getElem?_cons_succ, Option.isSome_none, List.length_map]
    exact key 1 (by omega) (by omega) hk
end Go.Proofs.YtllopddcpkhfjaaGreatDoor
/- the document's sha: roots, primes, the constants. -/
set_option linter.unusedSimpArgs false
set_option linter.unusedVariables false
namespace Go.Proofs.YtllopddcpkhfjaaGreatDoor
open Go
set_option maxRecDepth 20000
def gap : List Value → PH → Nat := fun vs _ => match vs[2]? with
  | some (Value.int _ x) => match vs[3]? with
    | some (Value.int _ y) => (y - x).toNat
    | _ => 0
  | _ => 0
theorem cv_u64_32 (x : Int) : SemP PG (convert T_uint64 T_uint32 (.int .u64 x)) = some (.int .u32 (IntKind.u32.wrap x)) := by kernel_rfl
theorem pow_uniq {k T r R : Nat} (h1 : r ^ k ≤ T) (h2 : T < (r + 1) ^ k) (h3 : R ^ k ≤ T) (h4 : T < (R + 1) ^ k) : r = R := by
  rcases Nat.lt_trichotomy r R with h | h | h
  · have := Nat.pow_le_pow_left (show r + 1 ≤ R by omega) k
    omega
  · exact h
  · have := Nat.pow_le_pow_left (show R + 1 ≤ r by omega) k
    omega
theorem root_ok {h : PH} (n : Nat) (third : Bool) (hn : n < 4294967296) (hT : n * 4294967296 ^ (if third then 3 else 2) < 68719476736 ^ (if third then 3 else 2)) (R : Nat) (hR1 : R ^ (if third then 3 else 2) ≤ n * 4294967296 ^ (if third then 3 else 2)) (hR2 : n * 4294967296 ^ (if third then 3 else 2) < (R + 1) ^ (if third then 3 else 2)) (w : W) (hw : R % 4294967296 = w.toNat) {k : Value → PH → Prop} (hk : ∀ h', Ext h h' → k (wv w) h') :
    CallsH PG id_carrackref01_root #[.int .u64 (n : Int), .bool third] h k := by
  apply carrackref01_root.call
  unfold carrackref01_root
  have hpos : 0 < (if third then 3 else 2) := by cases third <;> decide
  refine ⟨fun vs h' => ∃ lo hi : Nat, vs = [.int .u64 (n : Int), .bool third, .int .u64 (lo : Int), .int .u64 (hi : Int)] ∧ lo < hi ∧ hi ≤ 68719476736 ∧ lo ^ (if third then 3 else 2) ≤ n * 4294967296 ^ (if third then 3 else 2) ∧ n * 4294967296 ^ (if third then 3 else 2) < hi ^ (if third then 3 else 2) ∧ Ext h h', gap, ⟨0, 68719476736, rfl, by omega, by omega, by rw [Nat.zero_pow hpos]; omega, hT, Upd.refl⟩, ?_⟩
  rintro ρ h' ⟨lo, hi, hvs, hlh, hhi, h1, h2, u⟩
  simp only [List.map_cons, List.map_nil, List.cons.injEq, and_true] at hvs
  obtain ⟨v0, v1, v5, v6⟩ := hvs
  simp only [v0, v1, v5, v6, List.map_cons, List.map_nil]
  unfold carrackref01_root_b2
  have e1 : IntKind.u64.wrap ((hi : Int) - (lo : Int)) = ((hi - lo : Nat) : Int) := by rw [u64_wrap (by omega) (by omega)]; omega
  by_cases hg : 1 < hi - lo
  · have g1 : ((1 : Int) < ((hi - lo : Nat) : Int)) = True := eq_true (by omega)
    have e2 : IntKind.u64.wrap ((lo : Int) + (hi : Int)) = ((lo + hi : Nat) : Int) := by rw [u64_wrap (by omega) (by omega)]; omega
    have e3 : Int.tdiv ((lo + hi : Nat) : Int) 2 = (((lo + hi) / 2 : Nat) : Int) := rfl
    have e4 : IntKind.u64.wrap (((lo + hi) / 2 : Nat) : Int) = (((lo + hi) / 2 : Nat) : Int) := u64_wrap (by omega) (by omega)
    have qu : ∀ (t : TypeId) (a : Int), SemP PG (binOp .quo t (.int .u64 a) (.int .u64 2)) = some (.int .u64 (IntKind.u64.wrap (a.tdiv 2))) := fun t a => quo_eq (by decide)
    simp only [e1, g1, e2, qu, e3, e4, popO_some, bindH_eq, condV_bool, condV_true, condV_false, yV_bool, gopV_tt, gopV_ff, gopV_tf, gopV_ft, pickV_t, pickV_f, pickV_bool, nilS_ptr, add_eq, sub_eq, mul_eq, lss_eq, leq_eq, gtr_eq, geq_eq, not_eq, minI_eq, maxI_eq, extract_0, extract_1, extract_2, eqlI, neqI, makeFunc_eq, decide_true, decide_false, if_true, if_false, Bool.false_eq_true, Bool.not_true, Bool.not_false, reduceIte, List.getElem?_toArray, List.getElem?_cons_zero, List.getElem?_cons_succ, Option.isSome_none, List.length_map]
    refine least_ok ((lo + hi) / 2) n third (by omega) hn fun h3 u3 => ?_
    by_cases hc : ((lo + hi) / 2) ^ (if third then 3 else 2) ≤ n * 4294967296 ^ (if third then 3 else 2)
    · simp only [hc, popO_some, bindH_eq, condV_bool, condV_true, condV_false, yV_bool, gopV_tt, gopV_ff, gopV_tf, gopV_ft, pickV_t, pickV_f, pickV_bool, nilS_ptr, add_eq, sub_eq, mul_eq, lss_eq, leq_eq, gtr_eq, geq_eq, not_eq, minI_eq, maxI_eq, extract_0, extract_1, extract_2, eqlI, neqI, makeFunc_eq, decide_true, decide_false, if_true, if_false, Bool.false_eq_true, Bool.not_true, Bool.not_false, reduceIte, List.getElem?_toArray, List.getElem?_cons_zero, List.getElem?_cons_succ, Option.isSome_none, List.length_map]
      unfold carrackref01_root_k9
      refine ⟨⟨_, _, rfl, by omega, hhi, hc, h2, u.trans u3⟩, ?_⟩
      simp only [gap, List.getElem?_cons_succ, List.getElem?_cons_zero]
      omega
    · simp only [hc, popO_some, bindH_eq, condV_bool, condV_true, condV_false, yV_bool, gopV_tt, gopV_ff, gopV_tf, gopV_ft, pickV_t, pickV_f, pickV_bool, nilS_ptr, add_eq, sub_eq, mul_eq, lss_eq, leq_eq, gtr_eq, geq_eq, not_eq, minI_eq, maxI_eq, extract_0, extract_1, extract_2, eqlI, neqI, makeFunc_eq, decide_true, decide_false, if_true, if_false, Bool.false_eq_true, Bool.not_true, Bool.not_false, reduceIte, List.getElem?_toArray, List.getElem?_cons_zero, List.getElem?_cons_succ, Option.isSome_none, List.length_map]
      unfold carrackref01_root_k9
      refine ⟨⟨_, _, rfl, by omega, by omega, h1, by omega, u.trans u3⟩, ?_⟩
      simp only [gap, List.getElem?_cons_succ, List.getElem?_cons_zero]
      omega
  · have g1 : ((1 : Int) < ((hi - lo : Nat) : Int)) = False := eq_false (by omega)
    simp only [e1, g1, cv_u64_32, popO_some, bindH_eq, condV_bool, condV_true, condV_false, yV_bool, gopV_tt, gopV_ff, gopV_tf, gopV_ft, pickV_t, pickV_f, pickV_bool, nilS_ptr, add_eq, sub_eq, mul_eq, lss_eq, leq_eq, gtr_eq, geq_eq, not_eq, minI_eq, maxI_eq, extract_0, extract_1, extract_2, eqlI, neqI, makeFunc_eq, decide_true, decide_false, if_true, if_false, Bool.false_eq_true, Bool.not_true, Bool.not_false, reduceIte, List.getElem?_toArray, List.getElem?_cons_zero, List.getElem?_cons_succ, Option.isSome_none, List.length_map]
    have hhl : hi = lo + 1 := by omega
    subst hhl
    obtain rfl : lo = R := pow_uniq h1 h2 hR1 hR2
    have e : Value.int .u32 (IntKind.u32.wrap (lo : Int)) = wv w := by
      unfold wv
      rw [u32_wrap, ← hw]
      congr 1
    rw [e]
    exact hk _ u
theorem app_u {h : PH} {v x : Value} {l ys : List Nat} {F : List Nat} (O : UOwn h v l F) (S : SlR h 1 x (ys.map ucell)) (hl : l.length + ys.length ≤ 1000000) {t : TypeId} {k : Value → PH → Prop}
    (hk : ∀ v' h' F', UOwn h' v' (l ++ ys) F' → Upd F h h' → (∀ b ∈ F', b ∈ F ∨ h b = none) → k v' h') : SemH PG (Builtin.append_ #[T_sl_uint64, T_sl_uint64] t #[v, x]) h k := by
  refine append_own T_sl_uint64.und T_sl_uint64.und T_uint64.info T_uint64.size T_uint64.bytes T_uint64.zero rfl (by decide) O S ?_ (by simp; omega) ?_
  · intro r hr u hu
    obtain ⟨y, hyy, rfl⟩ := List.mem_map.1 hr
    simp only [ucell, List.mem_singleton] at hu
    subst hu
    rfl
  intro v' h' F' O' u' k' _
  rw [← List.map_append] at O'
  exact hk v' h' F' O' u' k'
theorem primesP_succ (f : Nat) (out : List Nat) (x : Nat) : primesP (f + 1) out x = if out.length < 64 then primesP f (if out.all (fun d => decide (x % d ≠ 0)) then out ++ [x] else out) (x + 1) else some out := rfl
theorem primes_ok {h : PH} {k : Value → PH → Prop} (hk : ∀ h' v F, UOwn h' v P64 F → Ext h h' → k v h') : CallsH PG id_carrackref01_primes #[.int .i64 64] h k := by
  apply carrackref01_primes.call
  unfold carrackref01_primes
  refine ⟨fun vs h' => ∃ (x : Nat) (v : Value) (out F : List Nat), vs = [.int .i64 64, v, .int .u64 (x : Int)] ∧ 2 ≤ x ∧ x ≤ 402 ∧ primesP (402 - x) out x = some P64 ∧ (∀ d ∈ out, 0 < d) ∧ UOwn h' v out F ∧ Fresh h F ∧ Ext h h', upTo 402 2, ⟨2, _, [], [], rfl, by omega, by omega, primes_val, by simp, OwnR.nil, (fun b hb => by cases hb), Upd.refl⟩, ?_⟩
  rintro ρ h' ⟨x, v, out, F, hvs, hx2, hx, hP, hd, O, fF, u⟩
  simp only [List.map_cons, List.map_nil, List.cons.injEq, and_true] at hvs
  obtain ⟨v0, v3, v4⟩ := hvs
  simp only [v0, v3, v4, List.map_cons, List.map_nil]
  unfold carrackref01_primes_b2
  have lv := u_len O.slR
  have hx' : x < 402 := by
    refine Nat.lt_of_le_of_ne hx fun e => ?_
    subst e
    cases hP
  obtain ⟨f, hf⟩ : ∃ f, 402 - x = f + 1 := ⟨401 - x, by omega⟩
  rw [hf, primesP_succ] at hP
  by_cases hl : out.length < 64
  · rw [if_pos hl] at hP
    have g1 : ((out.length : Int) < 64) = True := eq_true (by omega)
    simp only [lv, g1, popO_some, bindH_eq, condV_bool, condV_true, condV_false, yV_bool, gopV_tt, gopV_ff, gopV_tf, gopV_ft, pickV_t, pickV_f, pickV_bool, nilS_ptr, add_eq, sub_eq, mul_eq, lss_eq, leq_eq, gtr_eq, geq_eq, not_eq, minI_eq, maxI_eq, extract_0, extract_1, extract_2, eqlI, neqI, makeFunc_eq, decide_true, decide_false, if_true, if_false, Bool.false_eq_true, Bool.not_true, Bool.not_false, reduceIte, List.getElem?_toArray, List.getElem?_cons_zero, List.getElem?_cons_succ, Option.isSome_none, List.length_map]
    refine ⟨fun vs h2 => ∃ (i : Nat), i ≤ out.length ∧ vs = [.int .i64 64, v, .int .u64 (x : Int), .bool ((out.take i).all (fun d => decide (x % d ≠ 0))), .int .i64 (i : Int)] ∧ h2 = h', upTo out.length 4, ⟨0, by omega, rfl, rfl⟩, ?_⟩
    rintro ρ2 h2 ⟨i, hi, hvs, rfl⟩
    simp only [List.map_cons, List.map_nil, List.cons.injEq, and_true] at hvs
    obtain ⟨w0, w3, w4, w5, w6⟩ := hvs
    simp only [w0, w3, w4, w5, w6, List.map_cons, List.map_nil]
    unfold carrackref01_primes_b6
    by_cases hil : i < out.length
    · have g2 : ((i : Int) < (out.length : Int)) = True := eq_true (by omega)
      have gi : IntKind.i64.wrap ((i : Int) + 1) = ((i + 1 : Nat) : Int) := by rw [i64_wrap (by omega) (by omega)]; omega
      have hxi : out[i]? = some out[i] := List.getElem?_eq_getElem hil
      have hdp := hd _ (List.getElem_mem hil)
      have htk : out.take (i + 1) = out.take i ++ [out[i]] := List.take_succ_eq_append_getElem hil
      generalize out[i] = d at *
      obtain ⟨pa, p1, p2⟩ := u_at O.slR hxi
      have rm : SemP PG (binOp .rem T_uint64 (.int .u64 (x : Int)) (.int .u64 (d : Int))) = some (.int .u64 ((x % d : Nat) : Int)) := by
        rw [rem_eq (by omega)]
        congr 2
      have hall : (out.take (i + 1)).all (fun d => decide (x % d ≠ 0)) = ((out.take i).all (fun d => decide (x % d ≠ 0)) && decide (x % d ≠ 0)) := by
        rw [htk, List.all_append]
        simp
      by_cases hz : x % d = 0
      · have g3 : (((x % d : Nat) : Int) == 0) = true := by simp [hz]
        simp only [lv, g2, p1, p2, rm, g3, popO_some, bindH_eq, condV_bool, condV_true, condV_false, yV_bool, gopV_tt, gopV_ff, gopV_tf, gopV_ft, pickV_t, pickV_f, pickV_bool, nilS_ptr, add_eq, sub_eq, mul_eq, lss_eq, leq_eq, gtr_eq, geq_eq, not_eq, minI_eq, maxI_eq, extract_0, extract_1, extract_2, eqlI, neqI, makeFunc_eq, decide_true, decide_false, if_true, if_false, Bool.false_eq_true, Bool.not_true, Bool.not_false, reduceIte, List.getElem?_toArray, List.getElem?_cons_zero, List.getElem?_cons_succ, Option.isSome_none, List.length_map]
        unfold carrackref01_primes_k13 carrackref01_primes_k14
        simp only [gi, popO_some, bindH_eq, condV_bool, condV_true, condV_false, yV_bool, gopV_tt, gopV_ff, gopV_tf, gopV_ft, pickV_t, pickV_f, pickV_bool, nilS_ptr, add_eq, sub_eq, mul_eq, lss_eq, leq_eq, gtr_eq, geq_eq, not_eq, minI_eq, maxI_eq, extract_0, extract_1, extract_2, eqlI, neqI, makeFunc_eq, decide_true, decide_false, if_true, if_false, Bool.false_eq_true, Bool.not_true, Bool.not_false, reduceIte, List.getElem?_toArray, List.getElem?_cons_zero, List.getElem?_cons_succ, Option.isSome_none, List.length_map]
        refine ⟨⟨i + 1, by omega, ?_, (by trivial)⟩, ?_⟩
        · rw [hall]; simp [hz]
        · simp only [upTo, List.getElem?_cons_succ, List.getElem?_cons_zero]
          omega
      · have g3 : (((x % d : Nat) : Int) == 0) = false := by simp; omega
        simp only [lv, g2, p1, p2, rm, g3, popO_some, bindH_eq, condV_bool, condV_true, condV_false, yV_bool, gopV_tt, gopV_ff, gopV_tf, gopV_ft, pickV_t, pickV_f, pickV_bool, nilS_ptr, add_eq, sub_eq, mul_eq, lss_eq, leq_eq, gtr_eq, geq_eq, not_eq, minI_eq, maxI_eq, extract_0, extract_1, extract_2, eqlI, neqI, makeFunc_eq, decide_true, decide_false, if_true, if_false, Bool.false_eq_true, Bool.not_true, Bool.not_false, reduceIte, List.getElem?_toArray, List.getElem?_cons_zero, List.getElem?_cons_succ, Option.isSome_none, List.length_map]
        unfold carrackref01_primes_k13 carrackref01_primes_k14
        simp only [gi, popO_some, bindH_eq, condV_bool, condV_true, condV_false, yV_bool, gopV_tt, gopV_ff, gopV_tf, gopV_ft, pickV_t, pickV_f, pickV_bool, nilS_ptr, add_eq, sub_eq, mul_eq, lss_eq, leq_eq, gtr_eq, geq_eq, not_eq, minI_eq, maxI_eq, extract_0, extract_1, extract_2, eqlI, neqI, makeFunc_eq, decide_true, decide_false, if_true, if_false, Bool.false_eq_true, Bool.not_true, Bool.not_false, reduceIte, List.getElem?_toArray, List.getElem?_cons_zero, List.getElem?_cons_succ, Option.isSome_none, List.length_map]
        refine ⟨⟨i + 1, by omega, ?_, (by trivial)⟩, ?_⟩
        · rw [hall]; simp [hz]
        · simp only [upTo, List.getElem?_cons_succ, List.getElem?_cons_zero]
          omega
    · have g2 : ((i : Int) < (out.length : Int)) = False := eq_false (by omega)
      have gx : IntKind.u64.wrap ((x : Int) + 1) = ((x + 1 : Nat) : Int) := by rw [u64_wrap (by omega) (by omega)]; omega
      rw [List.take_of_length_le (by omega)]
      have hfx : 402 - (x + 1) = f := by omega
      cases hok : out.all (fun d => decide (x % d ≠ 0)) with
      | false =>
        rw [hok] at hP
        simp only [lv, g2, popO_some, bindH_eq, condV_bool, condV_true, condV_false, yV_bool, gopV_tt, gopV_ff, gopV_tf, gopV_ft, pickV_t, pickV_f, pickV_bool, nilS_ptr, add_eq, sub_eq, mul_eq, lss_eq, leq_eq, gtr_eq, geq_eq, not_eq, minI_eq, maxI_eq, extract_0, extract_1, extract_2, eqlI, neqI, makeFunc_eq, decide_true, decide_false, if_true, if_false, Bool.false_eq_true, Bool.not_true, Bool.not_false, reduceIte, List.getElem?_toArray, List.getElem?_cons_zero, List.getElem?_cons_succ, Option.isSome_none, List.length_map]
        unfold carrackref01_primes_k22 carrackref01_primes_k23
        simp only [gx, popO_some, bindH_eq, condV_bool, condV_true, condV_false, yV_bool, gopV_tt, gopV_ff, gopV_tf, gopV_ft, pickV_t, pickV_f, pickV_bool, nilS_ptr, add_eq, sub_eq, mul_eq, lss_eq, leq_eq, gtr_eq, geq_eq, not_eq, minI_eq, maxI_eq, extract_0, extract_1, extract_2, eqlI, neqI, makeFunc_eq, decide_true, decide_false, if_true, if_false, Bool.false_eq_true, Bool.not_true, Bool.not_false, reduceIte, List.getElem?_toArray, List.getElem?_cons_zero, List.getElem?_cons_succ, Option.isSome_none, List.length_map]
        refine ⟨⟨x + 1, v, out, F, rfl, by omega, by omega, by rw [hfx]; simpa using hP, hd, O, fF, u⟩, ?_⟩
        simp only [upTo, List.getElem?_cons_succ, List.getElem?_cons_zero]
        omega
      | true =>
        rw [hok, if_pos rfl] at hP
        have b1 : SemA PG (Instr.buildSlice T_sl_uint64 1 #[(0, .int .u64 (x : Int))]) = some (.cells #[.int .u64 (x : Int)] T_uint64, fun r => pure (.slice (some ⟨r, 0, none⟩) 1 1)) := by kernel_rfl
        simp only [lv, g2, b1, popO_some, bindH_eq, condV_bool, condV_true, condV_false, yV_bool, gopV_tt, gopV_ff, gopV_tf, gopV_ft, pickV_t, pickV_f, pickV_bool, nilS_ptr, add_eq, sub_eq, mul_eq, lss_eq, leq_eq, gtr_eq, geq_eq, not_eq, minI_eq, maxI_eq, extract_0, extract_1, extract_2, eqlI, neqI, makeFunc_eq, decide_true, decide_false, if_true, if_false, Bool.false_eq_true, Bool.not_true, Bool.not_false, reduceIte, List.getElem?_toArray, List.getElem?_cons_zero, List.getElem?_cons_succ, Option.isSome_none, List.length_map]
        intro r hr
        refine popO_pure ?_
        try rw [bindH_eq]
        have u1 : Ext h2 (h2.set r (.cells #[.int .u64 (x : Int)] T_uint64)) := Upd.new hr
        have S1 : SlR (h2.set r (.cells #[.int .u64 (x : Int)] T_uint64)) 1 (.slice (some ⟨r, 0, none⟩) 1 1) ([x].map ucell) := (OwnR.lit (n := 1) (ucell.rows [x]) set_same (by simp) (by decide) rfl).slR
        generalize h2.set r (.cells #[.int .u64 (x : Int)] T_uint64) = h3 at *
        refine app_u (O.ext u1) S1 (by simp; omega) fun v' h4 F' O' u' k' => ?_
        unfold carrackref01_primes_k22 carrackref01_primes_k23
        simp only [gx, popO_some, bindH_eq, condV_bool, condV_true, condV_false, yV_bool, gopV_tt, gopV_ff, gopV_tf, gopV_ft, pickV_t, pickV_f, pickV_bool, nilS_ptr, add_eq, sub_eq, mul_eq, lss_eq, leq_eq, gtr_eq, geq_eq, not_eq, minI_eq, maxI_eq, extract_0, extract_1, extract_2, eqlI, neqI, makeFunc_eq, decide_true, decide_false, if_true, if_false, Bool.false_eq_true, Bool.not_true, Bool.not_false, reduceIte, List.getElem?_toArray, List.getElem?_cons_zero, List.getElem?_cons_succ, Option.isSome_none, List.length_map]
        have e1 := u.trans u1
        refine ⟨⟨x + 1, v', out ++ [x], F', rfl, by omega, by omega, by rw [hfx]; exact hP, fun d hdm => ?_, O', fF.grow e1 k', e1.fresh u' fF⟩, ?_⟩
        · rcases List.mem_append.1 hdm with hdm | hdm
          · exact hd d hdm
          · simp only [List.mem_singleton] at hdm
            omega
        · simp only [upTo, List.getElem?_cons_succ, List.getElem?_cons_zero]
          omega
  · rw [if_neg hl] at hP
    obtain rfl : out = P64 := Option.some.inj hP
    have g1 : ((P64.length : Int) < 64) = False := eq_false (by decide)
    simp only [lv, g1, popO_some, bindH_eq, condV_bool, condV_true, condV_false, yV_bool, gopV_tt, gopV_ff, gopV_tf, gopV_ft, pickV_t, pickV_f, pickV_bool, nilS_ptr, add_eq, sub_eq, mul_eq, lss_eq, leq_eq, gtr_eq, geq_eq, not_eq, minI_eq, maxI_eq, extract_0, extract_1, extract_2, eqlI, neqI, makeFunc_eq, decide_true, decide_false, if_true, if_false, Bool.false_eq_true, Bool.not_true, Bool.not_false, reduceIte, List.getElem?_toArray, List.getElem?_cons_zero, List.getElem?_cons_succ, Option.isSome_none, List.length_map]
    exact hk _ v F O u
end Go.Proofs.YtllopddcpkhfjaaGreatDoor
