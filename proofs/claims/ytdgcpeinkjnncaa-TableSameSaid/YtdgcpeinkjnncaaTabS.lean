/- table: all items, in order. -/
import Derived.Test.YtdgcpeinkjnncaaTabI
import Derived.Test.YtdgcpeinkjnncaaTabL
set_option linter.unusedSimpArgs false
set_option linter.unusedVariables false
namespace Go.Proofs.Ytdgcpeinkjnncaa
open Go Go.Sort Go.Shelf

/-- By From, then Seq. -/
def ltI (a b : It) : Bool := decide (a.p.f < b.p.f) || (decide (a.p.f = b.p.f) && decide (a.p.s < b.p.s))
theorem ltOf_eq (a b : It) : ltOf cfI a b = ltI a b := by
  unfold ltOf cfI cmpI ltI
  by_cases h1 : a.p.f < b.p.f
  · simp [h1]
  · by_cases h2 : b.p.f < a.p.f
    · have h3 : ¬ a.p.f = b.p.f := by omega
      simp [h1, h2, h3]
    · have h3 : a.p.f = b.p.f := by omega
      simp only [h1, h2, if_false, ne_eq, not_true, h3]
      by_cases h4 : a.p.s < b.p.s
      · simp [h4]
      · by_cases h5 : b.p.s < a.p.s
        · simp [h4, h5]
        · simp [h4, h5]
theorem swoI : SWO (ltOf cfI) where
  irrefl x := by rw [ltOf_eq]; simp [ltI]
  trans x y z h1 h2 := by
    rw [ltOf_eq] at *
    simp only [ltI, Bool.or_eq_true, Bool.and_eq_true, decide_eq_true_eq] at *
    omega
  ntrans x y z h1 h2 := by
    rw [ltOf_eq] at *
    simp only [ltI, Bool.or_eq_false_iff, Bool.and_eq_false_iff, decide_eq_false_iff_not] at *
    omega

theorem Sort_ok {h : PH} {v : Value} {F : List Nat} {l : List It} (H : OwnR h T_api_Item 5 v (l.map It.cells) F) (hl : l.length ≤ 1000000) {k : Value → PH → Prop}
    (hk : ∀ (l' : List It) h', l'.Perm l → l'.Pairwise (fun a b => ltI b a = false) → OwnR h' T_api_Item 5 v (l'.map It.cells) F → Upd F h h' → k (.tuple #[]) h') :
    CallsH PG id_slices_SortFunc_sl_api_Item_api_Item #[v, .func (.func id_table_Table_Items_1) #[] #[]] h k := by
  refine sortFunc_ok (P := PG) sortLay (f := id_slices_SortFunc_sl_api_Item_api_Item) rfl (k := 5) (by decide) Try.isAgg44 Try.sizeOf44 It.cells (fun _ => rfl) (fun x v hv => ?_) cfI swoI (g := id_table_Table_Items_1) (by kernel_rfl)
    (fun x y => less_ok x y fun h' _ => rfl) (by kernel_rfl) H (by omega) (fun l' h' hp hs hO u => hk l' h' hp ?_ hO u)
  · have := x.allCell v (by simpa using hv)
    cases v <;> first | rfl | cases this
  · refine hs.imp fun {a b} hab => ?_
    rw [← ltOf_eq]; exact hab

theorem Values_ok {h : PH} {m : Nat} {k : Value → PH → Prop} (hk : ∀ bx h', h bx = none → Bx h' bx [.map (some m)] → Ext h h' → k (.func (.func id_maps_Values_map_table_id_api_Item_table_id_api_Item_1) #[] #[.pointer (some ⟨bx, 0, none⟩)]) h') :
    CallsH PG id_maps_Values_map_table_id_api_Item_table_id_api_Item #[.map (some m)] h k := by
  apply maps_Values_map_table_id_api_Item_table_id_api_Item.call
  unfold maps_Values_map_table_id_api_Item_table_id_api_Item
  intro r hr
  rw [bindH_eq]
  simp only [popO_some, bindH_eq, condV_bool, condV_true, condV_false, yV_bool, gopV_tt, gopV_ff, gopV_tf, gopV_ft, pickV_t, pickV_f, pickV_bool, nilS_ptr, add_eq, sub_eq, mul_eq, lss_eq, leq_eq, gtr_eq, geq_eq, not_eq, minI_eq, maxI_eq, extract_0, extract_1, extract_2, eqlI, neqI, makeFunc_eq, decide_true, decide_false, if_true, if_false, Bool.false_eq_true, Bool.not_true, Bool.not_false, reduceIte, List.getElem?_toArray, List.getElem?_cons_zero, List.getElem?_cons_succ, Option.isSome_none, List.length_map]
  exact hk r _ hr ⟨_, set_same⟩ (Upd.new hr)
theorem Collect_ok {h : PH} {bx m : Nat} {L : List It} (hb : Bx h bx [.map (some m)]) (hm : MAt h m L) (hL : L.length ≤ 1000000) {k : Value → PH → Prop}
    (hk : ∀ v (l' : List It) h' F, l'.Perm L → OwnR h' T_api_Item 5 v (l'.map It.cells) F → Fresh h F → Ext h h' → k v h') :
    CallsH PG id_slices_Collect_api_Item #[.func (.func id_maps_Values_map_table_id_api_Item_table_id_api_Item_1) #[] #[.pointer (some ⟨bx, 0, none⟩)]] h k := by
  apply slices_Collect_api_Item.call
  unfold slices_Collect_api_Item
  exact AppendSeq_ok hb hm hL hk
end Go.Proofs.Ytdgcpeinkjnncaa
