/- The texts of this claim, put together. -/
import Derived.Test.YtlkjippiaghbmaaGreatR19RC0
import Derived.Laws.Strings
import Derived.Test.YtlkjippiaghbmaaGreatChecked
import Derived.KernelRfl
/- Arrays: their elements' places, and arrays held against each other. -/
set_option linter.unusedSimpArgs false
set_option linter.unusedVariables false
namespace Go.Proofs.YtlkjippiaghbmaaGreat
open Go
section
variable {P : Program} {h : PH} {t e : TypeId}
theorem semE_forInN {α β : Type} {fs : List α} {s0 s1 : β} {body : α → β → Sem (ForInStep β)} (g : α → Bool)
    (hb : ∀ f ∈ fs, SemE P h (body f s0) = some (if g f then .yield s0 else .done s1)) : SemE P h (forIn fs s0 body) = some (if fs.all g then s0 else s1) := by
  induction fs with
  | nil => rfl
  | cons f fs ih =>
    rw [List.forIn_cons, semE_bind, hb f (by simp)]
    cases hg : g f with
    | true => simp only [if_true, Option.bind_some, List.all_cons, hg, Bool.true_and]; exact ih fun x hx => hb x (by simp [hx])
    | false => simp [List.all_cons, hg, SemE, pure]
theorem eqIn_array {d n size : Nat} {xs ys : Array Value} {i : TypeInfo} (hu : P.underlying t = some (.array n e)) (hi : P.info? e = some i) (hn : i.size = size) (g : Nat → Bool)
    (hf : ∀ j, j < n → ∃ a b, SemE P h (part e xs (j * size)) = some a ∧ SemE P h (part e ys (j * size)) = some b ∧ SemE P h (Op.equalIn d e a b) = some (g j)) :
    SemE P h (Op.equalIn (d + 1) t (.agg xs) (.agg ys)) = some ((List.range n).all g) := by
  rw [Op.equalIn, semE_und hu]
  simp only [sizeOf_bind, semE_info hi, hn]
  simp only [Std.Legacy.Range.forIn_eq_forIn_range', Std.Legacy.Range.size, Nat.sub_zero, Nat.add_sub_cancel, Nat.div_one]
  rw [semE_bind, ← List.range_eq_range', semE_forInN (s1 := ⟨some false, ()⟩) g]
  · cases hx : (List.range n).all g <;> simp [SemE, pure]
  · intro j hj
    obtain ⟨a, b, ha, hb, hab⟩ := hf j (List.mem_range.1 hj)
    rw [semE_bind, ha, Option.bind_some, semE_bind, hb, Option.bind_some, semE_bind, hab, Option.bind_some]
    cases g j <;> rfl
theorem indexAt_array {b o n len : Nat} {k : IntKind} {j : Int} {i : TypeInfo} (hu : P.underlying t = some (.array len e)) (hi : P.info? e = some i) (hn : i.size = n) (h0 : 0 ≤ j) (h1 : j < len) :
    SemP P (Instr.indexAt t (.pointer (some ⟨b, o, none⟩)) (.int k j)) = some (.pointer (some ⟨b, o + j.toNat * n, none⟩)) := by
  show SemP P (underlying t >>= _) = _
  rw [semP_und hu]
  show SemP P (underlying t >>= _) = _
  rw [semP_und hu]
  simp only [h0, h1, and_self, if_true]
  rw [sizeOf_bind, semP_info hi, hn, plain_add]; rfl
def ikey (x : Int) : Value := .int .i64 x
theorem ikeyed (hu : P.underlying t = some (.int .i64)) : Keyed P t ikey where
  chk := fun h b a => by
    unfold ikey
    rw [show (10000 : Nat) = 9999 + 1 from rfl]
    cases b <;> (rw [Instr.checkKey]; try rw [semE_und hu]) <;> rfl
  eq := fun h a b => by
    unfold ikey
    show SemE P h (Op.equalIn (9999 + 1) t _ _) = _
    rw [eqIn_int hu, beq_dec']
  bits := fun a => by unfold ikey; rw [show (10000 : Nat) = 9999 + 1 from rfl]; simp [Instr.sameBits]
  now := ⟨_, hu, .inr fun a b => by unfold ikey; simp [Instr.sameNow, beq_dec']⟩
end
end Go.Proofs.YtlkjippiaghbmaaGreat
/- Texts as lists of bytes: put together, cut, looked into; numbers as bytes, and back. -/
set_option linter.unusedSimpArgs false
set_option linter.unusedVariables false
namespace Go.Proofs.YtlkjippiaghbmaaGreat
open Go
abbrev Tx := List UInt8
def tx (l : List UInt8) : ByteArray := ⟨l.toArray⟩
theorem tx_list (s : ByteArray) : tx s.data.toList = s := by cases s; simp [tx]
theorem tx_size (l : List UInt8) : (tx l).size = l.length := by simp [tx, ByteArray.size]
theorem tx_inj {a b : List UInt8} (h : tx a = tx b) : a = b := by
  have := congrArg (fun s : ByteArray => s.data.toList) h
  simpa [tx] using this
theorem tx_nil : tx [] = ⟨#[]⟩ := rfl
theorem tx_append (a b : List UInt8) : tx a ++ tx b = tx (a ++ b) := by
  apply ByteArray.ext
  rw [ByteArray.data_append]
  simp [tx]
section
variable {P : Program} {h : PH} {t t' t2 e : TypeId}
theorem add_tx {a b : List UInt8} (hs : a.length + b.length ≤ 9223372036854775807) : SemP P (binOp .add t (.string (tx a)) (.string (tx b))) = some (.string (tx (a ++ b))) := by
  show SemP P (Op.stringOp .add (tx a) (tx b)) = _
  have : ¬ (((tx a).size + (tx b).size : Nat) : Int) > IntKind.i64.max := by
    rw [tx_size, tx_size]
    have : IntKind.i64.max = 9223372036854775807 := rfl
    omega
  simp only [Op.stringOp, this, if_false]
  rw [tx_append]; rfl
theorem cut_tx {l : List UInt8} {i j : Nat} {lo hi : Option Value} (hu : P.underlying t = some .string) (hlo : lo = none ∧ i = 0 ∨ ∃ k, lo = some (.int k i)) (hhi : hi = none ∧ j = l.length ∨ ∃ k, hi = some (.int k j)) (h1 : i ≤ j) (h2 : j ≤ l.length) :
    SemP P (Instr.sliceAt t (.string (tx l)) lo hi none) = some (.string (tx ((l.take j).drop i))) := by
  show SemP P (underlying t >>= _) = _
  rw [semP_und hu]
  show SemP P (underlying t >>= _) = _
  rw [semP_und hu]
  have hb : Instr.sliceBounds false (tx l).size (tx l).size lo hi none = pure (i, j, (tx l).size) := by
    have hcast : ∀ n m : Nat, n ≤ m → (0 ≤ (n : Int) ∧ (n : Int) ≤ (m : Int)) := fun n m h => by omega
    rw [tx_size]
    rcases hlo with ⟨rfl, rfl⟩ | ⟨k, rfl⟩ <;> rcases hhi with ⟨rfl, rfl⟩ | ⟨k', rfl⟩ <;>
      simp [Instr.sliceBounds, Instr.sliceBound, asIntOf, hcast, h1, h2]
  simp only [hb, pure_bind, Option.isSome_none, Bool.false_eq_true, if_false]
  show some (Value.string ((tx l).extract i j)) = _
  congr 2
  apply ByteArray.ext
  apply Array.ext'
  rw [ByteArray.data_extract]
  simp [tx, List.extract_eq_take_drop, List.drop_take]
theorem index_tx {l : List UInt8} {k : IntKind} {j : Nat} {b : UInt8} (hu : P.underlying t = some .string) (hb : l[j]? = some b) : SemP P (Instr.index t (.string (tx l)) (.int k j)) = some (.int .u8 b.toNat) := by
  show SemP P (underlying t >>= _) = _
  rw [semP_und hu]
  have h0 : (0 : Int) ≤ (j : Int) := by omega
  simp only [h0, if_true, Int.toNat_natCast]
  have : (tx l)[j]? = some b := by
    obtain ⟨hlt, rfl⟩ := List.getElem?_eq_some_iff.1 hb
    have hs : j < (tx l).size := by rw [tx_size]; exact hlt
    rw [getElem?_pos (tx l) j hs]
    congr 1
  rw [this]; rfl
/-- A text as bytes: a new block. -/
theorem bytes_of {l : List UInt8} (hu : P.underlying t = some .string) (hu2 : P.underlying t2 = some (.slice e)) (he : P.underlying e = some (.int .u8)) (hl : l.length ≤ 140737488355328) {k : Value → PH → Prop}
    (hk : ∀ v h', SlR h' 1 v (l.map bcell) → Ext h h' → k v h') : SemH P (convert t t2 (.string (tx l))) h k := by
  show SemH P (underlying t >>= _) h k
  rw [semH_und hu]
  show SemH P (underlying t2 >>= _) h k
  rw [semH_und hu2]
  show SemH P (underlying e >>= _) h k
  rw [semH_und he]
  show SemH P (choose (.appendCap (tx l).size 0 e) >>= _) h k
  rw [semH_choose]
  intro tt
  have hforced : (Question.appendCap (tx l).size 0 e).forced = false := rfl
  rw [hforced]
  have hcut : (tx l).size ≤ (Question.appendCap (tx l).size 0 e).cut tt ∧ (Question.appendCap (tx l).size 0 e).cut tt ≤ maxL := by
    rw [tx_size]
    have hpos : 0 < 2 ^ 63 - l.length := by omega
    have := Nat.mod_lt tt hpos
    simp only [Question.cut, maxL]
    omega
  simp only [Bool.false_eq_true, if_false]
  generalize (Question.appendCap (tx l).size 0 e).cut tt = cap at *
  obtain ⟨c1, c2⟩ := hcut
  intro r hr
  generalize hcs : ((tx l).data.map fun b => Value.int .u8 b.toNat) ++ Array.replicate (cap - (tx l).size) (.int .u8 0) = cs
  have hsz : cs.size = cap := by rw [← hcs]; simp [tx, ByteArray.size] at *; omega
  have u1 : Ext h (h.set r (.cells cs e)) := Upd.new hr
  show SemH P (markStringish ⟨r, 0, none⟩ >>= fun _ => pure (Value.slice (some ⟨r, 0, none⟩) (tx l).size cap)) (h.set r (.cells cs e)) k
  unfold markStringish
  have hshape : shapeH (h.set r (.cells cs e)) r = some (some (e, cs.size)) := by unfold shapeH; rw [set_same]
  show ∃ s, shapeH (h.set r (.cells cs e)) r = some s ∧ _
  refine ⟨_, hshape, ?_⟩
  show (∃ o, (h.set r (.cells cs e)) r = some o) ∧ _
  refine ⟨⟨_, set_same⟩, ?_⟩
  show k (.slice (some ⟨r, 0, none⟩) (tx l).size cap) (freezeH (h.set r (.cells cs e)) ⟨r, cs.size, none⟩ 1)
  have hf : freezeH (h.set r (.cells cs e)) ⟨r, cs.size, none⟩ 1 = h.set r (.cells cs e (cs.size, cs.size + 1)) := by
    funext b
    unfold freezeH PH.set
    simp only [Nat.one_ne_zero, if_false]
    by_cases hb : b = r
    · subst hb; simp
    · simp [hb]
  rw [hf]
  refine hk _ _ ⟨bcell.rows _, some ⟨r, 0, none⟩, cap, by rw [tx_size, List.length_map], by rw [List.length_map, ← tx_size]; exact c1, c2, fun _ => ⟨r, 0, cs, e, _, rfl, set_same, ?_, ?_⟩, trivial⟩ (Upd.new hr)
  · rw [List.length_map, hsz, ← tx_size]; omega
  · rw [bcell.flat, List.length_map]
    have e1 : cs.toList = (l.map fun b => Value.int .u8 b.toNat) ++ List.replicate (cap - (tx l).size) (.int .u8 0) := by rw [← hcs]; simp [tx]
    rw [Array.toList_extract, List.extract_eq_take_drop, e1]
    simp
/-- append(v, s...): v one's own bytes; s a text. -/
theorem append_str {bytes : Nat} {v : Value} {rows : List (List Value)} {l : List UInt8} {F : List Nat} {i : TypeInfo} {z : Value} {k : Value → PH → Prop}
    (hu : P.underlying t = some (.slice e)) (hu2 : P.underlying t2 = some .string) (hi : P.info? e = some i) (hn : i.size = 1) (hby : i.bytes = bytes) (hz : i.zero = some z) (hzs : z.cells.size = 1) (hb0 : 0 < bytes)
    (H : OwnR h e 1 v rows F) (hl : (rows.length + l.length) * bytes ≤ 140737488355328)
    (hk : ∀ v' h' F', OwnR h' e 1 v' (rows ++ l.map bcell) F' → Upd F h h' → (∀ b ∈ F', b ∈ F ∨ h b = none) → capOf v ≤ capOf v' → k v' h') : SemH P (Builtin.append_ #[t, t2] t' #[v, .string (tx l)]) h k := by
  generalize hys : l.map bcell = ys at *
  have hyl : ys.length = l.length := by rw [← hys, List.length_map]
  have hSok : Rows 1 ys := by rw [← hys]; exact bcell.rows l
  have hcell : ∀ r ∈ ys, ∀ u ∈ r, isCell u = true := by rw [← hys]; exact bcell.isCell l
  rw [← hyl] at hl
  have hfirst : SemE P h (Builtin.firstCells 1 ys.length (.string (tx l))) = some ys.flatten.toArray := by
    show some (((tx l).extract 0 ys.length).data.map fun b => Value.int .u8 b.toNat) = _
    rw [hyl, ← hys, bcell.flat]
    congr 1
    apply Array.ext'
    rw [ByteArray.data_extract]
    simp [tx, List.extract_eq_take_drop]
  have hbig : rows.length + ys.length ≤ 140737488355328 := Nat.le_trans (Nat.le_mul_of_pos_right _ hb0) hl
  have hrows : Rows 1 (rows ++ ys) := H.ok.append hSok
  have hflat : ∀ u ∈ ys.flatten, isCell u = true := fun u hu => by
    obtain ⟨r, hr, hur⟩ := List.mem_flatten.1 hu; exact hcell r hr u hur
  -- a new block
  have grown : ∀ (m : Nat), rows.length + ys.length ≤ m → m ≤ maxL → capOf v ≤ m → ∀ r, h r = none →
      k (.slice (some ⟨r, 0, none⟩) (rows.length + ys.length) m) (h.set r (.cells (rows.flatten.toArray ++ ys.flatten.toArray ++ Builtin.zeroCells z.cells (m - (rows.length + ys.length))) e (0, 0))) := by
    intro m hm hmax hcapv r hr
    refine hk _ _ [r] ⟨hrows, .inr ⟨r, m, _, by rw [List.length_append], rfl, set_same, by simpa using hm, hmax, ?_, ?_⟩⟩ (Upd.new hr) (fun b hb => .inr (by simp at hb; subst hb; exact hr)) hcapv
    · simp only [Array.size_append, List.size_toArray, H.ok.flat, hSok.flat, Builtin.zeroCells, Array.size_map, Array.size_range, hzs]
      rw [← Nat.add_mul, ← Nat.add_mul]; congr 1; omega
    · have hlen : (rows ++ ys).length * 1 = (rows.flatten ++ ys.flatten).length := by rw [List.length_append, List.length_append, H.ok.flat, hSok.flat, Nat.add_mul]
      simp only [Array.toList_append, hlen, List.flatten_append]
      rw [List.take_append_of_le_length (Nat.le_refl _), List.take_length]
  obtain ⟨va, vc, hv, hv1, hv2, _, _⟩ := H.slR.here
  have hvfirst := H.slR.first (P := P)
  subst hv
  simp only [Builtin.append_, List.getElem?_toArray, List.getElem?_cons_zero, List.getElem?_cons_succ, semH_und hu, semH_und hu2, sizeOf_bind, semH_info hi, pure_bind, Bool.false_eq_true, if_false, Builtin.lenOf, Bool.not_false, if_true, hn, tx_size, ← hyl]
  by_cases hfit : rows.length + ys.length ≤ vc
  · rw [if_pos hfit]
    refine semH_of_semE hfirst ?_
    rcases H.here with ⟨hv', hr, hF⟩ | ⟨b, cap, cs, hv', hF, hb, hle, hcap, hcs, htake⟩
    · subst hr
      simp only [List.length_nil, Value.slice.injEq, true_and] at hv'
      obtain ⟨rfl, rfl⟩ := hv'
      have hy : ys = [] := List.eq_nil_of_length_eq_zero (by omega)
      subst hy
      exact hk _ _ [] (by simpa using OwnR.nil) Upd.refl (by simp) (Nat.le_refl _)
    · simp only [Value.slice.injEq, true_and] at hv'
      obtain ⟨rfl, rfl⟩ := hv'
      have hmul : (rows.length + ys.length) * 1 ≤ vc * 1 := Nat.mul_le_mul_right _ hfit
      have hadd : (⟨b, 0, none⟩ : Addr).add (rows.length * 1) = ⟨b, 0 + rows.length * 1, none⟩ := plain_add ..
      show SemH P (storeCells ((⟨b, 0, none⟩ : Addr).add (rows.length * 1)) ys.flatten.toArray.toList >>= fun _ => pure _) h k
      rw [hadd]
      refine SemH.bind (P := P) (s := storeCells _ _) ?_
      refine semH_storeCells _ 0 h cs hb (by simp only [hSok.flat, hcs]; rw [Nat.add_mul] at hmul; omega) (by simpa using hflat) ?_
      show k _ _
      simp only [Nat.zero_add, Nat.add_zero]
      have fin : ∀ cs' : Array Value, cs'.size = cs.size → cs'.toList.take ((rows.length + ys.length) * 1) = rows.flatten ++ ys.flatten → ∀ h' : PH, h' b = some (.cells cs' e (0, 0)) → Upd F h h' →
          k (.slice (some ⟨b, 0, none⟩) (rows.length + ys.length) vc) h' := by
        intro cs' hsz htk h' hb' hu'
        refine hk _ _ [b] ⟨hrows, .inr ⟨b, vc, cs', by rw [List.length_append], rfl, hb', by simpa using hfit, hcap, by rw [hsz, hcs], by rw [List.length_append, htk, List.flatten_append]⟩⟩ hu' (fun b' hb' => .inl (hF ▸ hb')) (Nat.le_refl _)
      split
      · rename_i hys
        refine fin cs rfl ?_ h hb Upd.refl
        have : ys.length * 1 = 0 := by rw [← hSok.flat, hys]; rfl
        rw [Nat.add_mul, this, hys, List.append_nil, Nat.add_zero]; exact htake
      · refine fin _ (writeA_size _ _ _) ?_ _ set_same (Upd.set (by rw [hF]; simp))
        have hlen : rows.length * 1 + ys.flatten.length ≤ cs.size := by rw [hSok.flat, ← Nat.add_mul, hcs]; exact hmul
        rw [writeA_list _ _ _ hlen, htake]
        have hlen2 : (rows.length + ys.length) * 1 = (rows.flatten ++ ys.flatten).length := by rw [List.length_append, H.ok.flat, hSok.flat, Nat.add_mul]
        rw [hlen2, List.take_append_of_le_length (Nat.le_refl _), List.take_length]
  · rw [if_neg hfit]
    have hlt : vc < rows.length + ys.length := by omega
    have h63 : ¬ (((rows.length + ys.length : Nat) : Int) > IntKind.i64.max ∧ (False ∨ i.bytes = 0)) := by
      rintro ⟨_, hh⟩
      rcases hh with hh | hh
      · exact hh
      · omega
    have hfits : ¬ (Builtin.nextslicecap (rows.length + ys.length) vc * i.bytes > 2 ^ 48) := by
      rw [hby]
      have := growslice_fits hlt hl
      omega
    rw [semH_info hi, if_neg h63, semH_info hi, if_neg hfits, semH_choose]
    intro tt
    rw [semH_info hi, semH_askRoom]
    refine semH_of_semE hvfirst (semH_of_semE hfirst ?_)
    have hzv : zeroValue e = (typeInfo e >>= fun i => match i.zero with | some v => pure v | none => unsupported (.resourceLimit "a value of more than 2^22 cells")) := rfl
    rw [hzv, bind_assoc, semH_info hi, hz, pure_bind]
    have hcut : ∀ n m : Nat, n ≤ 140737488355328 → n ≤ (Question.appendCap n m e).cut tt ∧ (Question.appendCap n m e).cut tt ≤ maxL := by
      intro n m hn
      have hpos : 0 < 2 ^ 63 - n := by omega
      have := Nat.mod_lt tt hpos
      simp only [Question.cut, maxL]
      omega
    have hforced : (Question.appendCap (rows.length + ys.length) vc e).forced = false := rfl
    rw [hforced]
    obtain ⟨hc1, hc2⟩ := hcut (rows.length + ys.length) vc hbig
    intro r hr
    exact grown _ hc1 hc2 (show vc ≤ _ by omega) r hr

end

/-! ### numbers as bytes -/
theorem snoc_ind {α : Type} {p : List α → Prop} (h0 : p []) (hs : ∀ l a, p l → p (l ++ [a])) (l : List α) : p l := by
  rw [← List.reverse_reverse l]
  induction l.reverse with
  | nil => exact h0
  | cons a l ih => rw [List.reverse_cons]; exact hs _ _ ih
def val (l : List UInt8) : Nat := l.foldl (fun a b => a * 256 + b.toNat) 0
theorem val_snoc (l : List UInt8) (b : UInt8) : val (l ++ [b]) = val l * 256 + b.toNat := by simp [val]
def be (n : Nat) : Nat → List UInt8
  | 0 => []
  | k + 1 => be (n / 256) k ++ [UInt8.ofNat (n % 256)]
theorem be_len (n k : Nat) : (be n k).length = k := by
  induction k generalizing n with
  | zero => rfl
  | succ k ih => simp [be, ih]
theorem val_be (n k : Nat) : val (be n k) = n % 256 ^ k := by
  induction k generalizing n with
  | zero => simp [be, val]; omega
  | succ k ih =>
    rw [be, val_snoc, ih]
    have : (UInt8.ofNat (n % 256)).toNat = n % 256 := by simp
    rw [this, Nat.pow_succ, Nat.mul_comm (256 ^ k) 256, Nat.mod_mul]
    omega
theorem val_lt (l : List UInt8) : val l < 256 ^ l.length := by
  refine snoc_ind (p := fun l => val l < 256 ^ l.length) (by simp [val]) (fun l b ih => ?_) l
  · rw [val_snoc, List.length_append, List.length_singleton, Nat.pow_succ]
    have := b.toNat_lt
    have : val l + 1 ≤ 256 ^ l.length := ih
    have h2 : (val l + 1) * 256 ≤ 256 ^ l.length * 256 := Nat.mul_le_mul_right _ this
    omega
theorem be_get (n : Nat) : ∀ (k i : Nat), i < k → (be n k)[i]? = some (UInt8.ofNat (n / 256 ^ (k - 1 - i) % 256))
  | 0, i, h => by omega
  | k + 1, i, h => by
    rw [be, List.getElem?_append, be_len]
    by_cases hi : i < k
    · rw [if_pos hi, be_get (n / 256) k i hi, Nat.div_div_eq_div_mul, show k + 1 - 1 - i = (k - 1 - i) + 1 by omega, Nat.pow_succ, Nat.mul_comm 256]
    · have : i = k := by omega
      subst this
      simp
theorem be_take_succ {n k i : Nat} (hi : i < k) : (be n k).take (i + 1) = (be n k).take i ++ [UInt8.ofNat (n / 256 ^ (k - 1 - i) % 256)] := by
  rw [List.take_add_one, be_get n k i hi]; rfl
theorem be_val (l : List UInt8) : be (val l) l.length = l := by
  refine snoc_ind (p := fun l => be (val l) l.length = l) rfl (fun l b ih => ?_) l
  · rw [List.length_append, List.length_singleton, be, val_snoc]
    have := b.toNat_lt
    have e1 : (val l * 256 + b.toNat) / 256 = val l := by omega
    have e2 : (val l * 256 + b.toNat) % 256 = b.toNat := by omega
    rw [e1, e2, ih]
    simp
end Go.Proofs.YtlkjippiaghbmaaGreat
/- Boxes: a block of cells that is read and written by place. -/
set_option linter.unusedSimpArgs false
set_option linter.unusedVariables false
namespace Go.Proofs.YtlkjippiaghbmaaGreat
open Go
structure Bx (h : PH) (r : Nat) (cs : List Value) : Prop where
  here : ∃ e, h r = some (.cells cs.toArray e (0, 0))
theorem Bx.upd {h h' : PH} {r : Nat} {cs : List Value} {G : List Nat} (H : Bx h r cs) (u : Upd G h h') (hr : r ∉ G) : Bx h' r cs := by
  obtain ⟨e, h1⟩ := H; exact ⟨e, u.get h1 hr⟩
theorem Bx.ext {h h' : PH} {r : Nat} {cs : List Value} (H : Bx h r cs) (u : Ext h h') : Bx h' r cs := H.upd u (by simp)
theorem Bx.new {h : PH} {r : Nat} {cs : List Value} {e : TypeId} : Bx (h.set r (.cells cs.toArray e (0, 0))) r cs := ⟨e, set_same⟩
theorem Bx.cell {h : PH} {r : Nat} {cs : List Value} (H : Bx h r cs) (o : Nat) : cellH h ⟨r, o, none⟩ = cs[o]? := by
  obtain ⟨e, h1⟩ := H; simp [cellH, h1]
theorem Bx.known {h : PH} {r : Nat} {cs : List Value} (H : Bx h r cs) : h r ≠ none := by
  obtain ⟨e, h1⟩ := H; rw [h1]; simp
theorem Bx.apart {h : PH} {r x : Nat} {cs : List Value} (H : Bx h r cs) (hx : h x = none) : r ≠ x := fun e => H.known (e ▸ hx)
section
variable {P : Program} {h : PH} {t : TypeId}
theorem Bx.agg {r n o : Nat} {cs : List Value} (H : Bx h r cs) {d : TypeDesc} {i : TypeInfo} (hu : P.underlying t = some d) (hd : flatD d = false) (hi : P.info? t = some i) (hn : i.size = n) (hle : o + n ≤ cs.length) :
    SemE P h (Instr.loadAt t (.pointer (some ⟨r, o, none⟩))) = some (.agg ((cs.drop o).take n).toArray) := by
  obtain ⟨e, h1⟩ := H
  rw [loadAt_agg hu hd hi hn h1 (by simpa using hle)]
  congr 2
  simp [List.drop_take]
theorem Bx.put1 {r o : Nat} {cs : List Value} (H : Bx h r cs) {d : TypeDesc} {i : TypeInfo} (hu : P.underlying t = some d) (hd : flatD d = true) (hi : P.info? t = some i) (hn : i.size = 1) {v : Value} (ho : o < cs.length) (hv : isCell v = true) {k : Value → PH → Prop}
    (hk : ∀ h', Bx h' r (cs.set o v) → Upd [r] h h' → k undef h') : SemH P (storeS t (.pointer (some ⟨r, o, none⟩)) v) h k := by
  obtain ⟨e, h1⟩ := H
  refine store_cell hu hd h1 (by simpa using ho) hv hi hn ?_
  refine hk _ ⟨e, ?_⟩ (Upd.set (by simp))
  rw [set_same]; simp
theorem Bx.putN {r o : Nat} {cs vs : List Value} (H : Bx h r cs) {i : TypeInfo} (hi : P.info? t = some i) (hn : i.size = vs.length) (h0 : 0 < vs.length) (ho : o + vs.length ≤ cs.length) (hv : ∀ v ∈ vs, isCell v = true) {k : Value → PH → Prop}
    (hk : ∀ h', Bx h' r (cs.take o ++ vs ++ cs.drop (o + vs.length)) → Upd [r] h h' → k undef h') : SemH P (storeS t (.pointer (some ⟨r, o, none⟩)) (.agg vs.toArray)) h k := by
  obtain ⟨e, h1⟩ := H
  refine store_agg h1 hi (by simpa using hn) (by simpa using h0) (by simpa using ho) (by simpa using hv) ?_
  refine hk _ ⟨e, ?_⟩ (Upd.set (by simp))
  rw [set_same]
  congr 2
  apply Array.ext'
  have := writeA_list vs cs.toArray o (by simpa using ho)
  simpa using this
theorem Bx.fill {r : Nat} {vs : List Value} {i : TypeInfo} (hr : h r = none) (hi : P.info? t = some i) (hn : i.size = vs.length) (h0 : 0 < vs.length) (hz : (zcells P t).size = vs.length) (hv : ∀ v ∈ vs, isCell v = true) {k : Value → PH → Prop}
    (hk : ∀ h', Bx h' r vs → Ext h h' → k undef h') : SemH P (storeS t (.pointer (some ⟨r, 0, none⟩)) (.agg vs.toArray)) (h.set r (.cells (zcells P t) t)) k := by
  refine store_box set_same hi (by simpa using hn) (by simpa using h0) (by simpa using hz) (by simpa using hv) ?_
  rw [set_set_same]
  exact hk _ ⟨_, set_same⟩ (Upd.new hr)
theorem Bx.fill1 {r : Nat} {v : Value} {d : TypeDesc} {i : TypeInfo} (hr : h r = none) (hu : P.underlying t = some d) (hd : flatD d = true) (hi : P.info? t = some i) (hn : i.size = 1) (hz : (zcells P t).size = 1) (hv : isCell v = true) {k : Value → PH → Prop}
    (hk : ∀ h', Bx h' r [v] → Ext h h' → k undef h') : SemH P (storeS t (.pointer (some ⟨r, 0, none⟩)) v) (h.set r (.cells (zcells P t) t)) k := by
  refine store_cell hu hd set_same (by omega) hv hi hn ?_
  rw [set_set_same]
  refine hk _ ⟨t, ?_⟩ (Upd.new hr)
  rw [set_same]
  congr 2
  apply Array.ext'
  match zcells P t, hz with
  | ⟨[x]⟩, _ => rfl
theorem Bx.zero {r : Nat} {cs : List Value} (hz : zcells P t = cs.toArray) : Bx (h.set r (.cells (zcells P t) t)) r cs := by rw [hz]; exact Bx.new
end
theorem SlR.isc {h : PH} {n : Nat} {v : Value} {rows : List (List Value)} (S : SlR h n v rows) : isCell v = true := by obtain ⟨_, _, e, _⟩ := S.here; rw [e]; rfl
theorem SlR.upd0 {h h' : PH} {size : Nat} {v : Value} {rows : List (List Value)} {G : List Nat} (H : SlR h size v rows) (u : Upd G h h') (hd : rows ≠ [] → ∀ a n c, v = .slice (some a) n c → a.block ∉ G) : SlR h' size v rows := by
  refine ⟨H.ok, ?_⟩
  obtain ⟨a, c, hv, h1, h2, h3, h4⟩ := H.here
  refine ⟨a, c, hv, h1, h2, fun hne => ?_, h4⟩
  obtain ⟨b, o, cs, e, fr, ha, hb, hrest⟩ := h3 hne
  exact ⟨b, o, cs, e, fr, ha, u.get hb (hd hne ⟨b, o, none⟩ _ _ (ha ▸ hv)), hrest⟩
theorem SlR.known {h : PH} {size : Nat} {v : Value} {rows : List (List Value)} (H : SlR h size v rows) (hne : rows ≠ []) {x : Addr} {n c : Nat} (e : v = .slice (some x) n c) : h x.block ≠ none := by
  obtain ⟨a, c', hv, h1, h2, h3, h4⟩ := H.here
  obtain ⟨b, o, cs, e', fr, ha, hb, _⟩ := h3 hne
  rw [hv, ha] at e
  simp only [Value.slice.injEq, Option.some.injEq] at e
  rw [← e.1, hb]; simp
end Go.Proofs.YtlkjippiaghbmaaGreat
/- The types that the printed functions use, by program. -/
set_option maxRecDepth 100000
set_option linter.unusedVariables false
namespace Go.Proofs.YtlkjippiaghbmaaGreat
open Go
noncomputable abbrev PG : Program := Tryz.prog
theorem mix : PG.follows .mixedOrders = true := by kernel_rfl
abbrev id_carracklaw17_RecordSteps : FuncId := 3
abbrev id_carracklaw17_awake : FuncId := 4
abbrev id_carracklaw17_few : FuncId := 5
abbrev id_record_Step : FuncId := 6
abbrev id_carrackref17_Step : FuncId := 7
abbrev id_carrackref17_SameState : FuncId := 8
abbrev id_record_Check : FuncId := 9
abbrev id_carrackref17_Check : FuncId := 10
abbrev id_record_Bytes : FuncId := 11
abbrev id_record_Replay : FuncId := 12
abbrev id_slices_Clone_sl_api_Item_api_Item : FuncId := 13
abbrev id_table_Of : FuncId := 14
abbrev id_scan_Apply : FuncId := 15
abbrev id_table_Table_Items : FuncId := 16
abbrev id_carrackref17_Bytes : FuncId := 17
abbrev id_carrackref15_Of : FuncId := 18
abbrev id_carrackref16_Apply : FuncId := 19
abbrev id_carrackref14_SameItems : FuncId := 20
abbrev id_slices_ContainsFunc_sl_api_Place_api_Place : FuncId := 21
abbrev id_record_Check_1 : FuncId := 22
abbrev id_slices_Equal_sl_api_Item_api_Item : FuncId := 23
abbrev id_record_plain : FuncId := 24
abbrev id_wire_Writer_Byte : FuncId := 25
abbrev id_note_PutPlace : FuncId := 26
abbrev id_note_PutItems : FuncId := 27
abbrev id_wire_Writer_Bytes : FuncId := 28
abbrev id_note_PutNotes : FuncId := 29
abbrev id_record_first : FuncId := 30
abbrev id_record_Replay_1 : FuncId := 31
abbrev id_record_Parse : FuncId := 32
abbrev id_table_New : FuncId := 33
abbrev id_packet_Check : FuncId := 34
abbrev id_table_Table_Apply : FuncId := 35
abbrev id_slices_Collect_api_Item : FuncId := 36
abbrev id_maps_Values_map_table_id_api_Item_table_id_api_Item : FuncId := 37
abbrev id_slices_SortFunc_sl_api_Item_api_Item : FuncId := 38
abbrev id_table_Table_Items_1 : FuncId := 39
abbrev id_cmp_Or_int : FuncId := 40
abbrev id_cmp_Compare_int : FuncId := 41
abbrev id_cmp_Compare_uint64 : FuncId := 42
abbrev id_carrackref14_Place : FuncId := 43
abbrev id_carrackref14_Items : FuncId := 44
abbrev id_carrackref14_Notes : FuncId := 45
abbrev id_carrackref03_Bytes : FuncId := 46
abbrev id_carrackref14_RightItem : FuncId := 47
abbrev id_carrackref15_Table_place : FuncId := 48
abbrev id_carrackref15_Table_put : FuncId := 49
abbrev id_carrackref15_Table_Apply : FuncId := 50
abbrev id_slices_IndexFunc_sl_api_Place_api_Place : FuncId := 51
abbrev id_wire_memory_Fail : FuncId := 52
abbrev id_wire_Writer_put : FuncId := 53
abbrev id_wire_Writer_Number : FuncId := 54
abbrev id_note_put_api_Item : FuncId := 55
abbrev id_note_PutItems_1 : FuncId := 56
abbrev id_note_kind : FuncId := 57
abbrev id_wire_memory_Err : FuncId := 58
abbrev id_strings_Builder_String : FuncId := 59
abbrev id_note_put_api_Note : FuncId := 60
abbrev id_note_PutNotes_1 : FuncId := 61
abbrev id_wire_NewReader : FuncId := 62
abbrev id_wire_Reader_Byte : FuncId := 63
abbrev id_note_Place : FuncId := 64
abbrev id_note_Items : FuncId := 65
abbrev id_note_Notes : FuncId := 66
abbrev id_wire_Reader_End : FuncId := 67
abbrev id_note_Check : FuncId := 68
abbrev id_table_Table_sent : FuncId := 69
abbrev id_table_Table_received : FuncId := 70
abbrev id_table_Table_over : FuncId := 71
abbrev id_slices_AppendSeq_sl_api_Item_api_Item : FuncId := 72
abbrev id_maps_Values_map_table_id_api_Item_table_id_api_Item_1 : FuncId := 73
abbrev id_cmp_isNaN_int : FuncId := 76
abbrev id_cmp_isNaN_uint64 : FuncId := 77
abbrev id_carrackref10_Bytes : FuncId := 78
abbrev id_carrackref14_Right : FuncId := 79
abbrev id_carrackref10_Right : FuncId := 80
abbrev id_strings_Builder_WriteByte : FuncId := 81
abbrev id_packet_Put : FuncId := 82
abbrev id_wire_Reader_get : FuncId := 83
abbrev id_wire_Reader_Number : FuncId := 84
abbrev id_note_get_api_Item : FuncId := 85
abbrev id_note_Items_1 : FuncId := 86
abbrev id_note_get_api_Note : FuncId := 87
abbrev id_note_Notes_1 : FuncId := 88
abbrev id_wire_Reader_Left : FuncId := 89
abbrev id_table_Table_put : FuncId := 90
abbrev id_strings_Builder_copyCheck : FuncId := 101
abbrev id_wire_Writer_Text : FuncId := 102
abbrev id_wire_Reader_Raw : FuncId := 103
abbrev id_packet_Get : FuncId := 104
abbrev id_internal_abi_NoEscape : FuncId := 110
abbrev id_wire_Writer_Raw : FuncId := 111
abbrev id_wire_Reader_Text : FuncId := 112
abbrev id_strings_Builder_WriteString : FuncId := 114
abbrev T_ : TypeId := 0
abbrev T_int : TypeId := 3
abbrev T_uint8 : TypeId := 5
abbrev T_string : TypeId := 9
abbrev T_uint64 : TypeId := 22
abbrev T_api_Place : TypeId := 24
abbrev T_2_api_Place : TypeId := 25
abbrev T_sl_api_Item : TypeId := 26
abbrev T_api_Daemon : TypeId := 28
abbrev T_sl_api_Note : TypeId := 29
abbrev T_api_Record : TypeId := 31
abbrev T_api_Errno : TypeId := 34
abbrev T_api_Packet : TypeId := 44
abbrev T_api_Note : TypeId := 46
abbrev T_api_Item : TypeId := 51
abbrev T_carrackref15_Table : TypeId := 67
abbrev T_sl_api_Place : TypeId := 70
abbrev T_wire_memory : TypeId := 73
abbrev T_p_strings_Builder : TypeId := 74
abbrev T_sl_uint8 : TypeId := 75
abbrev T_strings_Builder : TypeId := 77
abbrev T_wire_Writer : TypeId := 79
abbrev T_sl_string : TypeId := 86
abbrev T_table_id : TypeId := 94
abbrev T_map_table_id_api_Item : TypeId := 96
abbrev T_table_Table : TypeId := 98
abbrev T_wire_Reader : TypeId := 135
abbrev T_functable_Table_table_id_api_Packet_api_Errno : TypeId := 136
abbrev T_5_functable_Table_table_id_api_Packet_api_Errno : TypeId := 138
abbrev T_sl_int : TypeId := 143
abbrev T_p_uint8 : TypeId := 155
abbrev T_unsafe_Pointer : TypeId := 180
theorem T_.und : PG.underlying T_ = some (TypeDesc.tuple #[]) := Tryz.underlying0
theorem T_.info : PG.info? T_ = some Tryz.t0 := by kernel_rfl
theorem T_.size : Tryz.t0.size = 1 := rfl
theorem T_.bytes : Tryz.t0.bytes = 0 := rfl
theorem T_.zero : Tryz.t0.zero = some (Value.tuple #[]) := rfl
theorem T_.zbox {h : PH} {r : Nat} : Bx (h.set r (.cells (zcells PG T_) T_)) r ((Value.tuple #[])).cells.toList := Bx.zero (by kernel_rfl)
theorem T_.zc : zcells PG T_ = ((Value.tuple #[])).cells := by kernel_rfl
theorem T_.load {h : PH} {a : Addr} : SemE PG h (Instr.loadAt T_ (.pointer (some a))) = cellH h a := loadAt_cell T_.und rfl
theorem T_.put {h : PH} {r o : Nat} {cs : List Value} {v : Value} {k : Value → PH → Prop} (H : Bx h r cs) (ho : o < cs.length) (hv : isCell v = true) (hk : ∀ h', Bx h' r (cs.set o v) → Upd [r] h h' → k undef h') : SemH PG (storeS T_ (.pointer (some ⟨r, o, none⟩)) v) h k := H.put1 T_.und rfl T_.info T_.size ho hv hk
theorem T_.fill {h : PH} {r : Nat} {v : Value} {k : Value → PH → Prop} (hr : h r = none) (hv : isCell v = true) (hk : ∀ h', Bx h' r [v] → Ext h h' → k undef h') : SemH PG (storeS T_ (.pointer (some ⟨r, 0, none⟩)) v) (h.set r (.cells (zcells PG T_) T_)) k := Bx.fill1 hr T_.und rfl T_.info T_.size (by rw [T_.zc]; rfl) hv hk
theorem T_int.und : PG.underlying T_int = some (TypeDesc.int IntKind.i64) := Tryz.underlying3
theorem T_int.info : PG.info? T_int = some Tryz.t3 := by kernel_rfl
theorem T_int.size : Tryz.t3.size = 1 := rfl
theorem T_int.bytes : Tryz.t3.bytes = 8 := rfl
theorem T_int.zero : Tryz.t3.zero = some (Value.int IntKind.i64 0) := rfl
theorem T_int.zbox {h : PH} {r : Nat} : Bx (h.set r (.cells (zcells PG T_int) T_int)) r ((Value.int IntKind.i64 0)).cells.toList := Bx.zero (by kernel_rfl)
theorem T_int.zc : zcells PG T_int = ((Value.int IntKind.i64 0)).cells := by kernel_rfl
theorem T_int.load {h : PH} {a : Addr} : SemE PG h (Instr.loadAt T_int (.pointer (some a))) = cellH h a := loadAt_cell T_int.und rfl
theorem T_int.put {h : PH} {r o : Nat} {cs : List Value} {v : Value} {k : Value → PH → Prop} (H : Bx h r cs) (ho : o < cs.length) (hv : isCell v = true) (hk : ∀ h', Bx h' r (cs.set o v) → Upd [r] h h' → k undef h') : SemH PG (storeS T_int (.pointer (some ⟨r, o, none⟩)) v) h k := H.put1 T_int.und rfl T_int.info T_int.size ho hv hk
theorem T_int.fill {h : PH} {r : Nat} {v : Value} {k : Value → PH → Prop} (hr : h r = none) (hv : isCell v = true) (hk : ∀ h', Bx h' r [v] → Ext h h' → k undef h') : SemH PG (storeS T_int (.pointer (some ⟨r, 0, none⟩)) v) (h.set r (.cells (zcells PG T_int) T_int)) k := Bx.fill1 hr T_int.und rfl T_int.info T_int.size (by rw [T_int.zc]; rfl) hv hk
theorem T_uint8.und : PG.underlying T_uint8 = some (TypeDesc.int IntKind.u8) := Tryz.underlying5
theorem T_uint8.info : PG.info? T_uint8 = some Tryz.t5 := by kernel_rfl
theorem T_uint8.size : Tryz.t5.size = 1 := rfl
theorem T_uint8.bytes : Tryz.t5.bytes = 1 := rfl
theorem T_uint8.zero : Tryz.t5.zero = some (Value.int IntKind.u8 0) := rfl
theorem T_uint8.zbox {h : PH} {r : Nat} : Bx (h.set r (.cells (zcells PG T_uint8) T_uint8)) r ((Value.int IntKind.u8 0)).cells.toList := Bx.zero (by kernel_rfl)
theorem T_uint8.zc : zcells PG T_uint8 = ((Value.int IntKind.u8 0)).cells := by kernel_rfl
theorem T_uint8.load {h : PH} {a : Addr} : SemE PG h (Instr.loadAt T_uint8 (.pointer (some a))) = cellH h a := loadAt_cell T_uint8.und rfl
theorem T_uint8.put {h : PH} {r o : Nat} {cs : List Value} {v : Value} {k : Value → PH → Prop} (H : Bx h r cs) (ho : o < cs.length) (hv : isCell v = true) (hk : ∀ h', Bx h' r (cs.set o v) → Upd [r] h h' → k undef h') : SemH PG (storeS T_uint8 (.pointer (some ⟨r, o, none⟩)) v) h k := H.put1 T_uint8.und rfl T_uint8.info T_uint8.size ho hv hk
theorem T_uint8.fill {h : PH} {r : Nat} {v : Value} {k : Value → PH → Prop} (hr : h r = none) (hv : isCell v = true) (hk : ∀ h', Bx h' r [v] → Ext h h' → k undef h') : SemH PG (storeS T_uint8 (.pointer (some ⟨r, 0, none⟩)) v) (h.set r (.cells (zcells PG T_uint8) T_uint8)) k := Bx.fill1 hr T_uint8.und rfl T_uint8.info T_uint8.size (by rw [T_uint8.zc]; rfl) hv hk
theorem T_string.und : PG.underlying T_string = some TypeDesc.string := Tryz.underlying9
theorem T_string.info : PG.info? T_string = some Tryz.t9 := by kernel_rfl
theorem T_string.size : Tryz.t9.size = 1 := rfl
theorem T_string.bytes : Tryz.t9.bytes = 16 := rfl
theorem T_string.zero : Tryz.t9.zero = some (Value.string { data := #[] }) := rfl
theorem T_string.zbox {h : PH} {r : Nat} : Bx (h.set r (.cells (zcells PG T_string) T_string)) r ((Value.string { data := #[] })).cells.toList := Bx.zero (by kernel_rfl)
theorem T_string.zc : zcells PG T_string = ((Value.string { data := #[] })).cells := by kernel_rfl
theorem T_string.load {h : PH} {a : Addr} : SemE PG h (Instr.loadAt T_string (.pointer (some a))) = cellH h a := loadAt_cell T_string.und rfl
theorem T_string.put {h : PH} {r o : Nat} {cs : List Value} {v : Value} {k : Value → PH → Prop} (H : Bx h r cs) (ho : o < cs.length) (hv : isCell v = true) (hk : ∀ h', Bx h' r (cs.set o v) → Upd [r] h h' → k undef h') : SemH PG (storeS T_string (.pointer (some ⟨r, o, none⟩)) v) h k := H.put1 T_string.und rfl T_string.info T_string.size ho hv hk
theorem T_string.fill {h : PH} {r : Nat} {v : Value} {k : Value → PH → Prop} (hr : h r = none) (hv : isCell v = true) (hk : ∀ h', Bx h' r [v] → Ext h h' → k undef h') : SemH PG (storeS T_string (.pointer (some ⟨r, 0, none⟩)) v) (h.set r (.cells (zcells PG T_string) T_string)) k := Bx.fill1 hr T_string.und rfl T_string.info T_string.size (by rw [T_string.zc]; rfl) hv hk
theorem T_string.len {s : ByteArray} {t : TypeId} : SemP PG (Builtin.len_ #[T_string] t #[.string s]) = some (.int .i64 s.size) := len_string T_string.und
theorem T_uint64.und : PG.underlying T_uint64 = some (TypeDesc.int IntKind.u64) := Tryz.underlying22
theorem T_uint64.info : PG.info? T_uint64 = some Tryz.t22 := by kernel_rfl
theorem T_uint64.size : Tryz.t22.size = 1 := rfl
theorem T_uint64.bytes : Tryz.t22.bytes = 8 := rfl
theorem T_uint64.zero : Tryz.t22.zero = some (Value.int IntKind.u64 0) := rfl
theorem T_uint64.zbox {h : PH} {r : Nat} : Bx (h.set r (.cells (zcells PG T_uint64) T_uint64)) r ((Value.int IntKind.u64 0)).cells.toList := Bx.zero (by kernel_rfl)
theorem T_uint64.zc : zcells PG T_uint64 = ((Value.int IntKind.u64 0)).cells := by kernel_rfl
theorem T_uint64.load {h : PH} {a : Addr} : SemE PG h (Instr.loadAt T_uint64 (.pointer (some a))) = cellH h a := loadAt_cell T_uint64.und rfl
theorem T_uint64.put {h : PH} {r o : Nat} {cs : List Value} {v : Value} {k : Value → PH → Prop} (H : Bx h r cs) (ho : o < cs.length) (hv : isCell v = true) (hk : ∀ h', Bx h' r (cs.set o v) → Upd [r] h h' → k undef h') : SemH PG (storeS T_uint64 (.pointer (some ⟨r, o, none⟩)) v) h k := H.put1 T_uint64.und rfl T_uint64.info T_uint64.size ho hv hk
theorem T_uint64.fill {h : PH} {r : Nat} {v : Value} {k : Value → PH → Prop} (hr : h r = none) (hv : isCell v = true) (hk : ∀ h', Bx h' r [v] → Ext h h' → k undef h') : SemH PG (storeS T_uint64 (.pointer (some ⟨r, 0, none⟩)) v) (h.set r (.cells (zcells PG T_uint64) T_uint64)) k := Bx.fill1 hr T_uint64.und rfl T_uint64.info T_uint64.size (by rw [T_uint64.zc]; rfl) hv hk
theorem T_api_Place.und : PG.underlying T_api_Place = some (TypeDesc.struct #[{ name := "Height", type := 22, offset := 0, embedded := false, tag := "", pkgPath := "", byteOffset := 0 }, { name := "Index", type := 3, offset := 1, embedded := false, tag := "", pkgPath := "", byteOffset := 8 }]) := Tryz.underlying24
theorem T_api_Place.info : PG.info? T_api_Place = some Tryz.t24 := by kernel_rfl
theorem T_api_Place.size : Tryz.t24.size = 2 := rfl
theorem T_api_Place.bytes : Tryz.t24.bytes = 16 := rfl
theorem T_api_Place.zero : Tryz.t24.zero = some (Value.agg #[Value.int IntKind.u64 0, Value.int IntKind.i64 0]) := rfl
theorem T_api_Place.zbox {h : PH} {r : Nat} : Bx (h.set r (.cells (zcells PG T_api_Place) T_api_Place)) r ((Value.agg #[Value.int IntKind.u64 0, Value.int IntKind.i64 0])).cells.toList := Bx.zero (by kernel_rfl)
theorem T_api_Place.zc : zcells PG T_api_Place = ((Value.agg #[Value.int IntKind.u64 0, Value.int IntKind.i64 0])).cells := by kernel_rfl
theorem T_api_Place.loadAgg {h : PH} {b o : Nat} {c : Array Value} {e : TypeId} {fr : Nat × Nat} (hb : h b = some (.cells c e fr)) (hle : o + 2 ≤ c.size) : SemE PG h (Instr.loadAt T_api_Place (.pointer (some ⟨b, o, none⟩))) = some (.agg (c.extract o (o + 2))) := loadAt_agg T_api_Place.und rfl T_api_Place.info T_api_Place.size hb hle
theorem T_api_Place.agg {h : PH} {r o : Nat} {cs : List Value} (H : Bx h r cs) (hle : o + 2 ≤ cs.length) : SemE PG h (Instr.loadAt T_api_Place (.pointer (some ⟨r, o, none⟩))) = some (.agg ((cs.drop o).take 2).toArray) := H.agg T_api_Place.und rfl T_api_Place.info T_api_Place.size hle
theorem T_api_Place.put {h : PH} {r o : Nat} {cs vs : List Value} {k : Value → PH → Prop} (H : Bx h r cs) (hl : vs.length = 2) (ho : o + 2 ≤ cs.length) (hv : ∀ v ∈ vs, isCell v = true) (hk : ∀ h', Bx h' r (cs.take o ++ vs ++ cs.drop (o + 2)) → Upd [r] h h' → k undef h') : SemH PG (storeS T_api_Place (.pointer (some ⟨r, o, none⟩)) (.agg vs.toArray)) h k := H.putN T_api_Place.info (by rw [hl]; rfl) (by omega) (by omega) hv (by rw [hl]; exact hk)
theorem T_api_Place.fill {h : PH} {r : Nat} {vs : List Value} {k : Value → PH → Prop} (hr : h r = none) (hl : vs.length = 2) (hv : ∀ v ∈ vs, isCell v = true) (hk : ∀ h', Bx h' r vs → Ext h h' → k undef h') : SemH PG (storeS T_api_Place (.pointer (some ⟨r, 0, none⟩)) (.agg vs.toArray)) (h.set r (.cells (zcells PG T_api_Place) T_api_Place)) k := Bx.fill hr T_api_Place.info (by rw [hl]; rfl) (by omega) (by rw [T_api_Place.zc, hl]; rfl) hv hk
theorem T_api_Place.f0 {b o : Nat} : SemP PG (Instr.fieldAt T_api_Place (.pointer (some ⟨b, o, none⟩)) 0) = some (.pointer (some ⟨b, o, none⟩)) := by kernel_rfl
theorem T_api_Place.f1 {b o : Nat} : SemP PG (Instr.fieldAt T_api_Place (.pointer (some ⟨b, o, none⟩)) 1) = some (.pointer (some ⟨b, o + 1, none⟩)) := by kernel_rfl
theorem T_api_Place.build0 : SemP PG (Instr.build T_api_Place #[]) = some (Value.agg #[Value.int IntKind.u64 0, Value.int IntKind.i64 0]) := by kernel_rfl
theorem T_2_api_Place.und : PG.underlying T_2_api_Place = some (TypeDesc.array 2 24) := Tryz.underlying25
theorem T_2_api_Place.info : PG.info? T_2_api_Place = some Tryz.t25 := by kernel_rfl
theorem T_2_api_Place.size : Tryz.t25.size = 4 := rfl
theorem T_2_api_Place.bytes : Tryz.t25.bytes = 32 := rfl
theorem T_2_api_Place.zero : Tryz.t25.zero = some (Value.agg #[Value.int IntKind.u64 0, Value.int IntKind.i64 0, Value.int IntKind.u64 0, Value.int IntKind.i64 0]) := rfl
theorem T_2_api_Place.zbox {h : PH} {r : Nat} : Bx (h.set r (.cells (zcells PG T_2_api_Place) T_2_api_Place)) r ((Value.agg #[Value.int IntKind.u64 0, Value.int IntKind.i64 0, Value.int IntKind.u64 0, Value.int IntKind.i64 0])).cells.toList := Bx.zero (by kernel_rfl)
theorem T_2_api_Place.zc : zcells PG T_2_api_Place = ((Value.agg #[Value.int IntKind.u64 0, Value.int IntKind.i64 0, Value.int IntKind.u64 0, Value.int IntKind.i64 0])).cells := by kernel_rfl
theorem T_2_api_Place.loadAgg {h : PH} {b o : Nat} {c : Array Value} {e : TypeId} {fr : Nat × Nat} (hb : h b = some (.cells c e fr)) (hle : o + 4 ≤ c.size) : SemE PG h (Instr.loadAt T_2_api_Place (.pointer (some ⟨b, o, none⟩))) = some (.agg (c.extract o (o + 4))) := loadAt_agg T_2_api_Place.und rfl T_2_api_Place.info T_2_api_Place.size hb hle
theorem T_2_api_Place.agg {h : PH} {r o : Nat} {cs : List Value} (H : Bx h r cs) (hle : o + 4 ≤ cs.length) : SemE PG h (Instr.loadAt T_2_api_Place (.pointer (some ⟨r, o, none⟩))) = some (.agg ((cs.drop o).take 4).toArray) := H.agg T_2_api_Place.und rfl T_2_api_Place.info T_2_api_Place.size hle
theorem T_2_api_Place.put {h : PH} {r o : Nat} {cs vs : List Value} {k : Value → PH → Prop} (H : Bx h r cs) (hl : vs.length = 4) (ho : o + 4 ≤ cs.length) (hv : ∀ v ∈ vs, isCell v = true) (hk : ∀ h', Bx h' r (cs.take o ++ vs ++ cs.drop (o + 4)) → Upd [r] h h' → k undef h') : SemH PG (storeS T_2_api_Place (.pointer (some ⟨r, o, none⟩)) (.agg vs.toArray)) h k := H.putN T_2_api_Place.info (by rw [hl]; rfl) (by omega) (by omega) hv (by rw [hl]; exact hk)
theorem T_2_api_Place.fill {h : PH} {r : Nat} {vs : List Value} {k : Value → PH → Prop} (hr : h r = none) (hl : vs.length = 4) (hv : ∀ v ∈ vs, isCell v = true) (hk : ∀ h', Bx h' r vs → Ext h h' → k undef h') : SemH PG (storeS T_2_api_Place (.pointer (some ⟨r, 0, none⟩)) (.agg vs.toArray)) (h.set r (.cells (zcells PG T_2_api_Place) T_2_api_Place)) k := Bx.fill hr T_2_api_Place.info (by rw [hl]; rfl) (by omega) (by rw [T_2_api_Place.zc, hl]; rfl) hv hk
theorem T_sl_api_Item.und : PG.underlying T_sl_api_Item = some (TypeDesc.slice 51) := Tryz.underlying26
theorem T_sl_api_Item.info : PG.info? T_sl_api_Item = some Tryz.t26 := by kernel_rfl
theorem T_sl_api_Item.size : Tryz.t26.size = 1 := rfl
theorem T_sl_api_Item.bytes : Tryz.t26.bytes = 24 := rfl
theorem T_sl_api_Item.zero : Tryz.t26.zero = some (Value.slice none 0 0) := rfl
theorem T_sl_api_Item.zbox {h : PH} {r : Nat} : Bx (h.set r (.cells (zcells PG T_sl_api_Item) T_sl_api_Item)) r ((Value.slice none 0 0)).cells.toList := Bx.zero (by kernel_rfl)
theorem T_sl_api_Item.zc : zcells PG T_sl_api_Item = ((Value.slice none 0 0)).cells := by kernel_rfl
theorem T_sl_api_Item.load {h : PH} {a : Addr} : SemE PG h (Instr.loadAt T_sl_api_Item (.pointer (some a))) = cellH h a := loadAt_cell T_sl_api_Item.und rfl
theorem T_sl_api_Item.put {h : PH} {r o : Nat} {cs : List Value} {v : Value} {k : Value → PH → Prop} (H : Bx h r cs) (ho : o < cs.length) (hv : isCell v = true) (hk : ∀ h', Bx h' r (cs.set o v) → Upd [r] h h' → k undef h') : SemH PG (storeS T_sl_api_Item (.pointer (some ⟨r, o, none⟩)) v) h k := H.put1 T_sl_api_Item.und rfl T_sl_api_Item.info T_sl_api_Item.size ho hv hk
theorem T_sl_api_Item.fill {h : PH} {r : Nat} {v : Value} {k : Value → PH → Prop} (hr : h r = none) (hv : isCell v = true) (hk : ∀ h', Bx h' r [v] → Ext h h' → k undef h') : SemH PG (storeS T_sl_api_Item (.pointer (some ⟨r, 0, none⟩)) v) (h.set r (.cells (zcells PG T_sl_api_Item) T_sl_api_Item)) k := Bx.fill1 hr T_sl_api_Item.und rfl T_sl_api_Item.info T_sl_api_Item.size (by rw [T_sl_api_Item.zc]; rfl) hv hk
theorem T_sl_api_Item.len {a : Option Addr} {n c : Nat} {t : TypeId} : SemP PG (Builtin.len_ #[T_sl_api_Item] t #[.slice a n c]) = some (.int .i64 n) := len_slice T_sl_api_Item.und
theorem T_api_Daemon.und : PG.underlying T_api_Daemon = some (TypeDesc.struct #[{ name := "Places", type := 25, offset := 0, embedded := false, tag := "", pkgPath := "", byteOffset := 0 }, { name := "Items", type := 26, offset := 4, embedded := false, tag := "", pkgPath := "", byteOffset := 32 }]) := Tryz.underlying28
theorem T_api_Daemon.info : PG.info? T_api_Daemon = some Tryz.t28 := by kernel_rfl
theorem T_api_Daemon.size : Tryz.t28.size = 5 := rfl
theorem T_api_Daemon.bytes : Tryz.t28.bytes = 56 := rfl
theorem T_api_Daemon.zero : Tryz.t28.zero = some (Value.agg #[Value.int IntKind.u64 0, Value.int IntKind.i64 0, Value.int IntKind.u64 0, Value.int IntKind.i64 0, Value.slice none 0 0]) := rfl
theorem T_api_Daemon.zbox {h : PH} {r : Nat} : Bx (h.set r (.cells (zcells PG T_api_Daemon) T_api_Daemon)) r ((Value.agg #[Value.int IntKind.u64 0, Value.int IntKind.i64 0, Value.int IntKind.u64 0, Value.int IntKind.i64 0, Value.slice none 0 0])).cells.toList := Bx.zero (by kernel_rfl)
theorem T_api_Daemon.zc : zcells PG T_api_Daemon = ((Value.agg #[Value.int IntKind.u64 0, Value.int IntKind.i64 0, Value.int IntKind.u64 0, Value.int IntKind.i64 0, Value.slice none 0 0])).cells := by kernel_rfl
theorem T_api_Daemon.loadAgg {h : PH} {b o : Nat} {c : Array Value} {e : TypeId} {fr : Nat × Nat} (hb : h b = some (.cells c e fr)) (hle : o + 5 ≤ c.size) : SemE PG h (Instr.loadAt T_api_Daemon (.pointer (some ⟨b, o, none⟩))) = some (.agg (c.extract o (o + 5))) := loadAt_agg T_api_Daemon.und rfl T_api_Daemon.info T_api_Daemon.size hb hle
theorem T_api_Daemon.agg {h : PH} {r o : Nat} {cs : List Value} (H : Bx h r cs) (hle : o + 5 ≤ cs.length) : SemE PG h (Instr.loadAt T_api_Daemon (.pointer (some ⟨r, o, none⟩))) = some (.agg ((cs.drop o).take 5).toArray) := H.agg T_api_Daemon.und rfl T_api_Daemon.info T_api_Daemon.size hle
theorem T_api_Daemon.put {h : PH} {r o : Nat} {cs vs : List Value} {k : Value → PH → Prop} (H : Bx h r cs) (hl : vs.length = 5) (ho : o + 5 ≤ cs.length) (hv : ∀ v ∈ vs, isCell v = true) (hk : ∀ h', Bx h' r (cs.take o ++ vs ++ cs.drop (o + 5)) → Upd [r] h h' → k undef h') : SemH PG (storeS T_api_Daemon (.pointer (some ⟨r, o, none⟩)) (.agg vs.toArray)) h k := H.putN T_api_Daemon.info (by rw [hl]; rfl) (by omega) (by omega) hv (by rw [hl]; exact hk)
theorem T_api_Daemon.fill {h : PH} {r : Nat} {vs : List Value} {k : Value → PH → Prop} (hr : h r = none) (hl : vs.length = 5) (hv : ∀ v ∈ vs, isCell v = true) (hk : ∀ h', Bx h' r vs → Ext h h' → k undef h') : SemH PG (storeS T_api_Daemon (.pointer (some ⟨r, 0, none⟩)) (.agg vs.toArray)) (h.set r (.cells (zcells PG T_api_Daemon) T_api_Daemon)) k := Bx.fill hr T_api_Daemon.info (by rw [hl]; rfl) (by omega) (by rw [T_api_Daemon.zc, hl]; rfl) hv hk
theorem T_api_Daemon.f0 {b o : Nat} : SemP PG (Instr.fieldAt T_api_Daemon (.pointer (some ⟨b, o, none⟩)) 0) = some (.pointer (some ⟨b, o, none⟩)) := by kernel_rfl
theorem T_api_Daemon.f1 {b o : Nat} : SemP PG (Instr.fieldAt T_api_Daemon (.pointer (some ⟨b, o, none⟩)) 1) = some (.pointer (some ⟨b, o + 4, none⟩)) := by kernel_rfl
theorem T_api_Daemon.build0 : SemP PG (Instr.build T_api_Daemon #[]) = some (Value.agg #[Value.int IntKind.u64 0, Value.int IntKind.i64 0, Value.int IntKind.u64 0, Value.int IntKind.i64 0, Value.slice none 0 0]) := by kernel_rfl
theorem T_sl_api_Note.und : PG.underlying T_sl_api_Note = some (TypeDesc.slice 46) := Tryz.underlying29
theorem T_sl_api_Note.info : PG.info? T_sl_api_Note = some Tryz.t29 := by kernel_rfl
theorem T_sl_api_Note.size : Tryz.t29.size = 1 := rfl
theorem T_sl_api_Note.bytes : Tryz.t29.bytes = 24 := rfl
theorem T_sl_api_Note.zero : Tryz.t29.zero = some (Value.slice none 0 0) := rfl
theorem T_sl_api_Note.zbox {h : PH} {r : Nat} : Bx (h.set r (.cells (zcells PG T_sl_api_Note) T_sl_api_Note)) r ((Value.slice none 0 0)).cells.toList := Bx.zero (by kernel_rfl)
theorem T_sl_api_Note.zc : zcells PG T_sl_api_Note = ((Value.slice none 0 0)).cells := by kernel_rfl
theorem T_sl_api_Note.load {h : PH} {a : Addr} : SemE PG h (Instr.loadAt T_sl_api_Note (.pointer (some a))) = cellH h a := loadAt_cell T_sl_api_Note.und rfl
theorem T_sl_api_Note.put {h : PH} {r o : Nat} {cs : List Value} {v : Value} {k : Value → PH → Prop} (H : Bx h r cs) (ho : o < cs.length) (hv : isCell v = true) (hk : ∀ h', Bx h' r (cs.set o v) → Upd [r] h h' → k undef h') : SemH PG (storeS T_sl_api_Note (.pointer (some ⟨r, o, none⟩)) v) h k := H.put1 T_sl_api_Note.und rfl T_sl_api_Note.info T_sl_api_Note.size ho hv hk
theorem T_sl_api_Note.fill {h : PH} {r : Nat} {v : Value} {k : Value → PH → Prop} (hr : h r = none) (hv : isCell v = true) (hk : ∀ h', Bx h' r [v] → Ext h h' → k undef h') : SemH PG (storeS T_sl_api_Note (.pointer (some ⟨r, 0, none⟩)) v) (h.set r (.cells (zcells PG T_sl_api_Note) T_sl_api_Note)) k := Bx.fill1 hr T_sl_api_Note.und rfl T_sl_api_Note.info T_sl_api_Note.size (by rw [T_sl_api_Note.zc]; rfl) hv hk
theorem T_sl_api_Note.len {a : Option Addr} {n c : Nat} {t : TypeId} : SemP PG (Builtin.len_ #[T_sl_api_Note] t #[.slice a n c]) = some (.int .i64 n) := len_slice T_sl_api_Note.und
theorem T_api_Record.und : PG.underlying T_api_Record = some (TypeDesc.struct #[{ name := "Kind", type := 3, offset := 0, embedded := false, tag := "", pkgPath := "", byteOffset := 0 }, { name := "State", type := 28, offset := 1, embedded := false, tag := "", pkgPath := "", byteOffset := 8 }, { name := "Chain", type := 3, offset := 6, embedded := false, tag := "", pkgPath := "", byteOffset := 64 }, { name := "Place", type := 24, offset := 7, embedded := false, tag := "", pkgPath := "", byteOffset := 72 }, { name := "Notes", type := 29, offset := 9, embedded := false, tag := "", pkgPath := "", byteOffset := 88 }]) := Tryz.underlying31
theorem T_api_Record.info : PG.info? T_api_Record = some Tryz.t31 := by kernel_rfl
theorem T_api_Record.size : Tryz.t31.size = 10 := rfl
theorem T_api_Record.bytes : Tryz.t31.bytes = 112 := rfl
theorem T_api_Record.zero : Tryz.t31.zero = some (Value.agg #[Value.int IntKind.i64 0, Value.int IntKind.u64 0, Value.int IntKind.i64 0, Value.int IntKind.u64 0, Value.int IntKind.i64 0, Value.slice none 0 0, Value.int IntKind.i64 0, Value.int IntKind.u64 0, Value.int IntKind.i64 0, Value.slice none 0 0]) := rfl
theorem T_api_Record.zbox {h : PH} {r : Nat} : Bx (h.set r (.cells (zcells PG T_api_Record) T_api_Record)) r ((Value.agg #[Value.int IntKind.i64 0, Value.int IntKind.u64 0, Value.int IntKind.i64 0, Value.int IntKind.u64 0, Value.int IntKind.i64 0, Value.slice none 0 0, Value.int IntKind.i64 0, Value.int IntKind.u64 0, Value.int IntKind.i64 0, Value.slice none 0 0])).cells.toList := Bx.zero (by kernel_rfl)
theorem T_api_Record.zc : zcells PG T_api_Record = ((Value.agg #[Value.int IntKind.i64 0, Value.int IntKind.u64 0, Value.int IntKind.i64 0, Value.int IntKind.u64 0, Value.int IntKind.i64 0, Value.slice none 0 0, Value.int IntKind.i64 0, Value.int IntKind.u64 0, Value.int IntKind.i64 0, Value.slice none 0 0])).cells := by kernel_rfl
theorem T_api_Record.loadAgg {h : PH} {b o : Nat} {c : Array Value} {e : TypeId} {fr : Nat × Nat} (hb : h b = some (.cells c e fr)) (hle : o + 10 ≤ c.size) : SemE PG h (Instr.loadAt T_api_Record (.pointer (some ⟨b, o, none⟩))) = some (.agg (c.extract o (o + 10))) := loadAt_agg T_api_Record.und rfl T_api_Record.info T_api_Record.size hb hle
theorem T_api_Record.agg {h : PH} {r o : Nat} {cs : List Value} (H : Bx h r cs) (hle : o + 10 ≤ cs.length) : SemE PG h (Instr.loadAt T_api_Record (.pointer (some ⟨r, o, none⟩))) = some (.agg ((cs.drop o).take 10).toArray) := H.agg T_api_Record.und rfl T_api_Record.info T_api_Record.size hle
theorem T_api_Record.put {h : PH} {r o : Nat} {cs vs : List Value} {k : Value → PH → Prop} (H : Bx h r cs) (hl : vs.length = 10) (ho : o + 10 ≤ cs.length) (hv : ∀ v ∈ vs, isCell v = true) (hk : ∀ h', Bx h' r (cs.take o ++ vs ++ cs.drop (o + 10)) → Upd [r] h h' → k undef h') : SemH PG (storeS T_api_Record (.pointer (some ⟨r, o, none⟩)) (.agg vs.toArray)) h k := H.putN T_api_Record.info (by rw [hl]; rfl) (by omega) (by omega) hv (by rw [hl]; exact hk)
theorem T_api_Record.fill {h : PH} {r : Nat} {vs : List Value} {k : Value → PH → Prop} (hr : h r = none) (hl : vs.length = 10) (hv : ∀ v ∈ vs, isCell v = true) (hk : ∀ h', Bx h' r vs → Ext h h' → k undef h') : SemH PG (storeS T_api_Record (.pointer (some ⟨r, 0, none⟩)) (.agg vs.toArray)) (h.set r (.cells (zcells PG T_api_Record) T_api_Record)) k := Bx.fill hr T_api_Record.info (by rw [hl]; rfl) (by omega) (by rw [T_api_Record.zc, hl]; rfl) hv hk
theorem T_api_Record.f0 {b o : Nat} : SemP PG (Instr.fieldAt T_api_Record (.pointer (some ⟨b, o, none⟩)) 0) = some (.pointer (some ⟨b, o, none⟩)) := by kernel_rfl
theorem T_api_Record.f1 {b o : Nat} : SemP PG (Instr.fieldAt T_api_Record (.pointer (some ⟨b, o, none⟩)) 1) = some (.pointer (some ⟨b, o + 1, none⟩)) := by kernel_rfl
theorem T_api_Record.f2 {b o : Nat} : SemP PG (Instr.fieldAt T_api_Record (.pointer (some ⟨b, o, none⟩)) 2) = some (.pointer (some ⟨b, o + 6, none⟩)) := by kernel_rfl
theorem T_api_Record.f3 {b o : Nat} : SemP PG (Instr.fieldAt T_api_Record (.pointer (some ⟨b, o, none⟩)) 3) = some (.pointer (some ⟨b, o + 7, none⟩)) := by kernel_rfl
theorem T_api_Record.f4 {b o : Nat} : SemP PG (Instr.fieldAt T_api_Record (.pointer (some ⟨b, o, none⟩)) 4) = some (.pointer (some ⟨b, o + 9, none⟩)) := by kernel_rfl
theorem T_api_Record.build0 : SemP PG (Instr.build T_api_Record #[]) = some (Value.agg #[Value.int IntKind.i64 0, Value.int IntKind.u64 0, Value.int IntKind.i64 0, Value.int IntKind.u64 0, Value.int IntKind.i64 0, Value.slice none 0 0, Value.int IntKind.i64 0, Value.int IntKind.u64 0, Value.int IntKind.i64 0, Value.slice none 0 0]) := by kernel_rfl
theorem T_api_Errno.und : PG.underlying T_api_Errno = some (TypeDesc.int IntKind.i64) := Tryz.underlying34
theorem T_api_Errno.info : PG.info? T_api_Errno = some Tryz.t34 := by kernel_rfl
theorem T_api_Errno.size : Tryz.t34.size = 1 := rfl
theorem T_api_Errno.bytes : Tryz.t34.bytes = 8 := rfl
theorem T_api_Errno.zero : Tryz.t34.zero = some (Value.int IntKind.i64 0) := rfl
theorem T_api_Errno.zbox {h : PH} {r : Nat} : Bx (h.set r (.cells (zcells PG T_api_Errno) T_api_Errno)) r ((Value.int IntKind.i64 0)).cells.toList := Bx.zero (by kernel_rfl)
theorem T_api_Errno.zc : zcells PG T_api_Errno = ((Value.int IntKind.i64 0)).cells := by kernel_rfl
theorem T_api_Errno.load {h : PH} {a : Addr} : SemE PG h (Instr.loadAt T_api_Errno (.pointer (some a))) = cellH h a := loadAt_cell T_api_Errno.und rfl
theorem T_api_Errno.put {h : PH} {r o : Nat} {cs : List Value} {v : Value} {k : Value → PH → Prop} (H : Bx h r cs) (ho : o < cs.length) (hv : isCell v = true) (hk : ∀ h', Bx h' r (cs.set o v) → Upd [r] h h' → k undef h') : SemH PG (storeS T_api_Errno (.pointer (some ⟨r, o, none⟩)) v) h k := H.put1 T_api_Errno.und rfl T_api_Errno.info T_api_Errno.size ho hv hk
theorem T_api_Errno.fill {h : PH} {r : Nat} {v : Value} {k : Value → PH → Prop} (hr : h r = none) (hv : isCell v = true) (hk : ∀ h', Bx h' r [v] → Ext h h' → k undef h') : SemH PG (storeS T_api_Errno (.pointer (some ⟨r, 0, none⟩)) v) (h.set r (.cells (zcells PG T_api_Errno) T_api_Errno)) k := Bx.fill1 hr T_api_Errno.und rfl T_api_Errno.info T_api_Errno.size (by rw [T_api_Errno.zc]; rfl) hv hk
theorem T_api_Packet.und : PG.underlying T_api_Packet = some (TypeDesc.struct #[{ name := "From", type := 3, offset := 0, embedded := false, tag := "", pkgPath := "", byteOffset := 0 }, { name := "Seq", type := 22, offset := 1, embedded := false, tag := "", pkgPath := "", byteOffset := 8 }, { name := "Timeout", type := 22, offset := 2, embedded := false, tag := "", pkgPath := "", byteOffset := 16 }, { name := "Data", type := 9, offset := 3, embedded := false, tag := "", pkgPath := "", byteOffset := 24 }]) := Tryz.underlying44
theorem T_api_Packet.info : PG.info? T_api_Packet = some Tryz.t44 := by kernel_rfl
theorem T_api_Packet.size : Tryz.t44.size = 4 := rfl
theorem T_api_Packet.bytes : Tryz.t44.bytes = 40 := rfl
theorem T_api_Packet.zero : Tryz.t44.zero = some (Value.agg #[Value.int IntKind.i64 0, Value.int IntKind.u64 0, Value.int IntKind.u64 0, Value.string { data := #[] }]) := rfl
theorem T_api_Packet.zbox {h : PH} {r : Nat} : Bx (h.set r (.cells (zcells PG T_api_Packet) T_api_Packet)) r ((Value.agg #[Value.int IntKind.i64 0, Value.int IntKind.u64 0, Value.int IntKind.u64 0, Value.string { data := #[] }])).cells.toList := Bx.zero (by kernel_rfl)
theorem T_api_Packet.zc : zcells PG T_api_Packet = ((Value.agg #[Value.int IntKind.i64 0, Value.int IntKind.u64 0, Value.int IntKind.u64 0, Value.string { data := #[] }])).cells := by kernel_rfl
theorem T_api_Packet.loadAgg {h : PH} {b o : Nat} {c : Array Value} {e : TypeId} {fr : Nat × Nat} (hb : h b = some (.cells c e fr)) (hle : o + 4 ≤ c.size) : SemE PG h (Instr.loadAt T_api_Packet (.pointer (some ⟨b, o, none⟩))) = some (.agg (c.extract o (o + 4))) := loadAt_agg T_api_Packet.und rfl T_api_Packet.info T_api_Packet.size hb hle
theorem T_api_Packet.agg {h : PH} {r o : Nat} {cs : List Value} (H : Bx h r cs) (hle : o + 4 ≤ cs.length) : SemE PG h (Instr.loadAt T_api_Packet (.pointer (some ⟨r, o, none⟩))) = some (.agg ((cs.drop o).take 4).toArray) := H.agg T_api_Packet.und rfl T_api_Packet.info T_api_Packet.size hle
theorem T_api_Packet.put {h : PH} {r o : Nat} {cs vs : List Value} {k : Value → PH → Prop} (H : Bx h r cs) (hl : vs.length = 4) (ho : o + 4 ≤ cs.length) (hv : ∀ v ∈ vs, isCell v = true) (hk : ∀ h', Bx h' r (cs.take o ++ vs ++ cs.drop (o + 4)) → Upd [r] h h' → k undef h') : SemH PG (storeS T_api_Packet (.pointer (some ⟨r, o, none⟩)) (.agg vs.toArray)) h k := H.putN T_api_Packet.info (by rw [hl]; rfl) (by omega) (by omega) hv (by rw [hl]; exact hk)
theorem T_api_Packet.fill {h : PH} {r : Nat} {vs : List Value} {k : Value → PH → Prop} (hr : h r = none) (hl : vs.length = 4) (hv : ∀ v ∈ vs, isCell v = true) (hk : ∀ h', Bx h' r vs → Ext h h' → k undef h') : SemH PG (storeS T_api_Packet (.pointer (some ⟨r, 0, none⟩)) (.agg vs.toArray)) (h.set r (.cells (zcells PG T_api_Packet) T_api_Packet)) k := Bx.fill hr T_api_Packet.info (by rw [hl]; rfl) (by omega) (by rw [T_api_Packet.zc, hl]; rfl) hv hk
theorem T_api_Packet.f0 {b o : Nat} : SemP PG (Instr.fieldAt T_api_Packet (.pointer (some ⟨b, o, none⟩)) 0) = some (.pointer (some ⟨b, o, none⟩)) := by kernel_rfl
theorem T_api_Packet.f1 {b o : Nat} : SemP PG (Instr.fieldAt T_api_Packet (.pointer (some ⟨b, o, none⟩)) 1) = some (.pointer (some ⟨b, o + 1, none⟩)) := by kernel_rfl
theorem T_api_Packet.f2 {b o : Nat} : SemP PG (Instr.fieldAt T_api_Packet (.pointer (some ⟨b, o, none⟩)) 2) = some (.pointer (some ⟨b, o + 2, none⟩)) := by kernel_rfl
theorem T_api_Packet.f3 {b o : Nat} : SemP PG (Instr.fieldAt T_api_Packet (.pointer (some ⟨b, o, none⟩)) 3) = some (.pointer (some ⟨b, o + 3, none⟩)) := by kernel_rfl
theorem T_api_Packet.build0 : SemP PG (Instr.build T_api_Packet #[]) = some (Value.agg #[Value.int IntKind.i64 0, Value.int IntKind.u64 0, Value.int IntKind.u64 0, Value.string { data := #[] }]) := by kernel_rfl
theorem T_api_Note.und : PG.underlying T_api_Note = some (TypeDesc.struct #[{ name := "Kind", type := 3, offset := 0, embedded := false, tag := "", pkgPath := "", byteOffset := 0 }, { name := "Packet", type := 44, offset := 1, embedded := false, tag := "", pkgPath := "", byteOffset := 8 }]) := Tryz.underlying46
theorem T_api_Note.info : PG.info? T_api_Note = some Tryz.t46 := by kernel_rfl
theorem T_api_Note.size : Tryz.t46.size = 5 := rfl
theorem T_api_Note.bytes : Tryz.t46.bytes = 48 := rfl
theorem T_api_Note.zero : Tryz.t46.zero = some (Value.agg #[Value.int IntKind.i64 0, Value.int IntKind.i64 0, Value.int IntKind.u64 0, Value.int IntKind.u64 0, Value.string { data := #[] }]) := rfl
theorem T_api_Note.zbox {h : PH} {r : Nat} : Bx (h.set r (.cells (zcells PG T_api_Note) T_api_Note)) r ((Value.agg #[Value.int IntKind.i64 0, Value.int IntKind.i64 0, Value.int IntKind.u64 0, Value.int IntKind.u64 0, Value.string { data := #[] }])).cells.toList := Bx.zero (by kernel_rfl)
theorem T_api_Note.zc : zcells PG T_api_Note = ((Value.agg #[Value.int IntKind.i64 0, Value.int IntKind.i64 0, Value.int IntKind.u64 0, Value.int IntKind.u64 0, Value.string { data := #[] }])).cells := by kernel_rfl
theorem T_api_Note.loadAgg {h : PH} {b o : Nat} {c : Array Value} {e : TypeId} {fr : Nat × Nat} (hb : h b = some (.cells c e fr)) (hle : o + 5 ≤ c.size) : SemE PG h (Instr.loadAt T_api_Note (.pointer (some ⟨b, o, none⟩))) = some (.agg (c.extract o (o + 5))) := loadAt_agg T_api_Note.und rfl T_api_Note.info T_api_Note.size hb hle
theorem T_api_Note.agg {h : PH} {r o : Nat} {cs : List Value} (H : Bx h r cs) (hle : o + 5 ≤ cs.length) : SemE PG h (Instr.loadAt T_api_Note (.pointer (some ⟨r, o, none⟩))) = some (.agg ((cs.drop o).take 5).toArray) := H.agg T_api_Note.und rfl T_api_Note.info T_api_Note.size hle
theorem T_api_Note.put {h : PH} {r o : Nat} {cs vs : List Value} {k : Value → PH → Prop} (H : Bx h r cs) (hl : vs.length = 5) (ho : o + 5 ≤ cs.length) (hv : ∀ v ∈ vs, isCell v = true) (hk : ∀ h', Bx h' r (cs.take o ++ vs ++ cs.drop (o + 5)) → Upd [r] h h' → k undef h') : SemH PG (storeS T_api_Note (.pointer (some ⟨r, o, none⟩)) (.agg vs.toArray)) h k := H.putN T_api_Note.info (by rw [hl]; rfl) (by omega) (by omega) hv (by rw [hl]; exact hk)
theorem T_api_Note.fill {h : PH} {r : Nat} {vs : List Value} {k : Value → PH → Prop} (hr : h r = none) (hl : vs.length = 5) (hv : ∀ v ∈ vs, isCell v = true) (hk : ∀ h', Bx h' r vs → Ext h h' → k undef h') : SemH PG (storeS T_api_Note (.pointer (some ⟨r, 0, none⟩)) (.agg vs.toArray)) (h.set r (.cells (zcells PG T_api_Note) T_api_Note)) k := Bx.fill hr T_api_Note.info (by rw [hl]; rfl) (by omega) (by rw [T_api_Note.zc, hl]; rfl) hv hk
theorem T_api_Note.f0 {b o : Nat} : SemP PG (Instr.fieldAt T_api_Note (.pointer (some ⟨b, o, none⟩)) 0) = some (.pointer (some ⟨b, o, none⟩)) := by kernel_rfl
theorem T_api_Note.f1 {b o : Nat} : SemP PG (Instr.fieldAt T_api_Note (.pointer (some ⟨b, o, none⟩)) 1) = some (.pointer (some ⟨b, o + 1, none⟩)) := by kernel_rfl
theorem T_api_Note.build0 : SemP PG (Instr.build T_api_Note #[]) = some (Value.agg #[Value.int IntKind.i64 0, Value.int IntKind.i64 0, Value.int IntKind.u64 0, Value.int IntKind.u64 0, Value.string { data := #[] }]) := by kernel_rfl
theorem T_api_Item.und : PG.underlying T_api_Item = some (TypeDesc.struct #[{ name := "Packet", type := 44, offset := 0, embedded := false, tag := "", pkgPath := "", byteOffset := 0 }, { name := "Stage", type := 3, offset := 4, embedded := false, tag := "", pkgPath := "", byteOffset := 40 }]) := Tryz.underlying51
theorem T_api_Item.info : PG.info? T_api_Item = some Tryz.t51 := by kernel_rfl
theorem T_api_Item.size : Tryz.t51.size = 5 := rfl
theorem T_api_Item.bytes : Tryz.t51.bytes = 48 := rfl
theorem T_api_Item.zero : Tryz.t51.zero = some (Value.agg #[Value.int IntKind.i64 0, Value.int IntKind.u64 0, Value.int IntKind.u64 0, Value.string { data := #[] }, Value.int IntKind.i64 0]) := rfl
theorem T_api_Item.zbox {h : PH} {r : Nat} : Bx (h.set r (.cells (zcells PG T_api_Item) T_api_Item)) r ((Value.agg #[Value.int IntKind.i64 0, Value.int IntKind.u64 0, Value.int IntKind.u64 0, Value.string { data := #[] }, Value.int IntKind.i64 0])).cells.toList := Bx.zero (by kernel_rfl)
theorem T_api_Item.zc : zcells PG T_api_Item = ((Value.agg #[Value.int IntKind.i64 0, Value.int IntKind.u64 0, Value.int IntKind.u64 0, Value.string { data := #[] }, Value.int IntKind.i64 0])).cells := by kernel_rfl
theorem T_api_Item.loadAgg {h : PH} {b o : Nat} {c : Array Value} {e : TypeId} {fr : Nat × Nat} (hb : h b = some (.cells c e fr)) (hle : o + 5 ≤ c.size) : SemE PG h (Instr.loadAt T_api_Item (.pointer (some ⟨b, o, none⟩))) = some (.agg (c.extract o (o + 5))) := loadAt_agg T_api_Item.und rfl T_api_Item.info T_api_Item.size hb hle
theorem T_api_Item.agg {h : PH} {r o : Nat} {cs : List Value} (H : Bx h r cs) (hle : o + 5 ≤ cs.length) : SemE PG h (Instr.loadAt T_api_Item (.pointer (some ⟨r, o, none⟩))) = some (.agg ((cs.drop o).take 5).toArray) := H.agg T_api_Item.und rfl T_api_Item.info T_api_Item.size hle
theorem T_api_Item.put {h : PH} {r o : Nat} {cs vs : List Value} {k : Value → PH → Prop} (H : Bx h r cs) (hl : vs.length = 5) (ho : o + 5 ≤ cs.length) (hv : ∀ v ∈ vs, isCell v = true) (hk : ∀ h', Bx h' r (cs.take o ++ vs ++ cs.drop (o + 5)) → Upd [r] h h' → k undef h') : SemH PG (storeS T_api_Item (.pointer (some ⟨r, o, none⟩)) (.agg vs.toArray)) h k := H.putN T_api_Item.info (by rw [hl]; rfl) (by omega) (by omega) hv (by rw [hl]; exact hk)
theorem T_api_Item.fill {h : PH} {r : Nat} {vs : List Value} {k : Value → PH → Prop} (hr : h r = none) (hl : vs.length = 5) (hv : ∀ v ∈ vs, isCell v = true) (hk : ∀ h', Bx h' r vs → Ext h h' → k undef h') : SemH PG (storeS T_api_Item (.pointer (some ⟨r, 0, none⟩)) (.agg vs.toArray)) (h.set r (.cells (zcells PG T_api_Item) T_api_Item)) k := Bx.fill hr T_api_Item.info (by rw [hl]; rfl) (by omega) (by rw [T_api_Item.zc, hl]; rfl) hv hk
theorem T_api_Item.f0 {b o : Nat} : SemP PG (Instr.fieldAt T_api_Item (.pointer (some ⟨b, o, none⟩)) 0) = some (.pointer (some ⟨b, o, none⟩)) := by kernel_rfl
theorem T_api_Item.f1 {b o : Nat} : SemP PG (Instr.fieldAt T_api_Item (.pointer (some ⟨b, o, none⟩)) 1) = some (.pointer (some ⟨b, o + 4, none⟩)) := by kernel_rfl
theorem T_api_Item.build0 : SemP PG (Instr.build T_api_Item #[]) = some (Value.agg #[Value.int IntKind.i64 0, Value.int IntKind.u64 0, Value.int IntKind.u64 0, Value.string { data := #[] }, Value.int IntKind.i64 0]) := by kernel_rfl
theorem T_carrackref15_Table.und : PG.underlying T_carrackref15_Table = some (TypeDesc.struct #[{ name := "L", type := 26, offset := 0, embedded := false, tag := "", pkgPath := "", byteOffset := 0 }, { name := "Room", type := 3, offset := 1, embedded := false, tag := "", pkgPath := "", byteOffset := 24 }]) := Tryz.underlying67
theorem T_carrackref15_Table.info : PG.info? T_carrackref15_Table = some Tryz.t67 := by kernel_rfl
theorem T_carrackref15_Table.size : Tryz.t67.size = 2 := rfl
theorem T_carrackref15_Table.bytes : Tryz.t67.bytes = 32 := rfl
theorem T_carrackref15_Table.zero : Tryz.t67.zero = some (Value.agg #[Value.slice none 0 0, Value.int IntKind.i64 0]) := rfl
theorem T_carrackref15_Table.zbox {h : PH} {r : Nat} : Bx (h.set r (.cells (zcells PG T_carrackref15_Table) T_carrackref15_Table)) r ((Value.agg #[Value.slice none 0 0, Value.int IntKind.i64 0])).cells.toList := Bx.zero (by kernel_rfl)
theorem T_carrackref15_Table.zc : zcells PG T_carrackref15_Table = ((Value.agg #[Value.slice none 0 0, Value.int IntKind.i64 0])).cells := by kernel_rfl
theorem T_carrackref15_Table.loadAgg {h : PH} {b o : Nat} {c : Array Value} {e : TypeId} {fr : Nat × Nat} (hb : h b = some (.cells c e fr)) (hle : o + 2 ≤ c.size) : SemE PG h (Instr.loadAt T_carrackref15_Table (.pointer (some ⟨b, o, none⟩))) = some (.agg (c.extract o (o + 2))) := loadAt_agg T_carrackref15_Table.und rfl T_carrackref15_Table.info T_carrackref15_Table.size hb hle
theorem T_carrackref15_Table.agg {h : PH} {r o : Nat} {cs : List Value} (H : Bx h r cs) (hle : o + 2 ≤ cs.length) : SemE PG h (Instr.loadAt T_carrackref15_Table (.pointer (some ⟨r, o, none⟩))) = some (.agg ((cs.drop o).take 2).toArray) := H.agg T_carrackref15_Table.und rfl T_carrackref15_Table.info T_carrackref15_Table.size hle
theorem T_carrackref15_Table.put {h : PH} {r o : Nat} {cs vs : List Value} {k : Value → PH → Prop} (H : Bx h r cs) (hl : vs.length = 2) (ho : o + 2 ≤ cs.length) (hv : ∀ v ∈ vs, isCell v = true) (hk : ∀ h', Bx h' r (cs.take o ++ vs ++ cs.drop (o + 2)) → Upd [r] h h' → k undef h') : SemH PG (storeS T_carrackref15_Table (.pointer (some ⟨r, o, none⟩)) (.agg vs.toArray)) h k := H.putN T_carrackref15_Table.info (by rw [hl]; rfl) (by omega) (by omega) hv (by rw [hl]; exact hk)
theorem T_carrackref15_Table.fill {h : PH} {r : Nat} {vs : List Value} {k : Value → PH → Prop} (hr : h r = none) (hl : vs.length = 2) (hv : ∀ v ∈ vs, isCell v = true) (hk : ∀ h', Bx h' r vs → Ext h h' → k undef h') : SemH PG (storeS T_carrackref15_Table (.pointer (some ⟨r, 0, none⟩)) (.agg vs.toArray)) (h.set r (.cells (zcells PG T_carrackref15_Table) T_carrackref15_Table)) k := Bx.fill hr T_carrackref15_Table.info (by rw [hl]; rfl) (by omega) (by rw [T_carrackref15_Table.zc, hl]; rfl) hv hk
theorem T_carrackref15_Table.f0 {b o : Nat} : SemP PG (Instr.fieldAt T_carrackref15_Table (.pointer (some ⟨b, o, none⟩)) 0) = some (.pointer (some ⟨b, o, none⟩)) := by kernel_rfl
theorem T_carrackref15_Table.f1 {b o : Nat} : SemP PG (Instr.fieldAt T_carrackref15_Table (.pointer (some ⟨b, o, none⟩)) 1) = some (.pointer (some ⟨b, o + 1, none⟩)) := by kernel_rfl
theorem T_carrackref15_Table.build0 : SemP PG (Instr.build T_carrackref15_Table #[]) = some (Value.agg #[Value.slice none 0 0, Value.int IntKind.i64 0]) := by kernel_rfl
theorem T_sl_api_Place.und : PG.underlying T_sl_api_Place = some (TypeDesc.slice 24) := Tryz.underlying70
theorem T_sl_api_Place.info : PG.info? T_sl_api_Place = some Tryz.t70 := by kernel_rfl
theorem T_sl_api_Place.size : Tryz.t70.size = 1 := rfl
theorem T_sl_api_Place.bytes : Tryz.t70.bytes = 24 := rfl
theorem T_sl_api_Place.zero : Tryz.t70.zero = some (Value.slice none 0 0) := rfl
theorem T_sl_api_Place.zbox {h : PH} {r : Nat} : Bx (h.set r (.cells (zcells PG T_sl_api_Place) T_sl_api_Place)) r ((Value.slice none 0 0)).cells.toList := Bx.zero (by kernel_rfl)
theorem T_sl_api_Place.zc : zcells PG T_sl_api_Place = ((Value.slice none 0 0)).cells := by kernel_rfl
theorem T_sl_api_Place.load {h : PH} {a : Addr} : SemE PG h (Instr.loadAt T_sl_api_Place (.pointer (some a))) = cellH h a := loadAt_cell T_sl_api_Place.und rfl
theorem T_sl_api_Place.put {h : PH} {r o : Nat} {cs : List Value} {v : Value} {k : Value → PH → Prop} (H : Bx h r cs) (ho : o < cs.length) (hv : isCell v = true) (hk : ∀ h', Bx h' r (cs.set o v) → Upd [r] h h' → k undef h') : SemH PG (storeS T_sl_api_Place (.pointer (some ⟨r, o, none⟩)) v) h k := H.put1 T_sl_api_Place.und rfl T_sl_api_Place.info T_sl_api_Place.size ho hv hk
theorem T_sl_api_Place.fill {h : PH} {r : Nat} {v : Value} {k : Value → PH → Prop} (hr : h r = none) (hv : isCell v = true) (hk : ∀ h', Bx h' r [v] → Ext h h' → k undef h') : SemH PG (storeS T_sl_api_Place (.pointer (some ⟨r, 0, none⟩)) v) (h.set r (.cells (zcells PG T_sl_api_Place) T_sl_api_Place)) k := Bx.fill1 hr T_sl_api_Place.und rfl T_sl_api_Place.info T_sl_api_Place.size (by rw [T_sl_api_Place.zc]; rfl) hv hk
theorem T_sl_api_Place.len {a : Option Addr} {n c : Nat} {t : TypeId} : SemP PG (Builtin.len_ #[T_sl_api_Place] t #[.slice a n c]) = some (.int .i64 n) := len_slice T_sl_api_Place.und
theorem T_wire_memory.und : PG.underlying T_wire_memory = some (TypeDesc.struct #[{ name := "e", type := 34, offset := 0, embedded := false, tag := "", pkgPath := "carrack/wire", byteOffset := 0 }]) := Tryz.underlying73
theorem T_wire_memory.info : PG.info? T_wire_memory = some Tryz.t73 := by kernel_rfl
theorem T_wire_memory.size : Tryz.t73.size = 1 := rfl
theorem T_wire_memory.bytes : Tryz.t73.bytes = 8 := rfl
theorem T_wire_memory.zero : Tryz.t73.zero = some (Value.agg #[Value.int IntKind.i64 0]) := rfl
theorem T_wire_memory.zbox {h : PH} {r : Nat} : Bx (h.set r (.cells (zcells PG T_wire_memory) T_wire_memory)) r ((Value.agg #[Value.int IntKind.i64 0])).cells.toList := Bx.zero (by kernel_rfl)
theorem T_wire_memory.zc : zcells PG T_wire_memory = ((Value.agg #[Value.int IntKind.i64 0])).cells := by kernel_rfl
theorem T_wire_memory.loadAgg {h : PH} {b o : Nat} {c : Array Value} {e : TypeId} {fr : Nat × Nat} (hb : h b = some (.cells c e fr)) (hle : o + 1 ≤ c.size) : SemE PG h (Instr.loadAt T_wire_memory (.pointer (some ⟨b, o, none⟩))) = some (.agg (c.extract o (o + 1))) := loadAt_agg T_wire_memory.und rfl T_wire_memory.info T_wire_memory.size hb hle
theorem T_wire_memory.agg {h : PH} {r o : Nat} {cs : List Value} (H : Bx h r cs) (hle : o + 1 ≤ cs.length) : SemE PG h (Instr.loadAt T_wire_memory (.pointer (some ⟨r, o, none⟩))) = some (.agg ((cs.drop o).take 1).toArray) := H.agg T_wire_memory.und rfl T_wire_memory.info T_wire_memory.size hle
theorem T_wire_memory.put {h : PH} {r o : Nat} {cs vs : List Value} {k : Value → PH → Prop} (H : Bx h r cs) (hl : vs.length = 1) (ho : o + 1 ≤ cs.length) (hv : ∀ v ∈ vs, isCell v = true) (hk : ∀ h', Bx h' r (cs.take o ++ vs ++ cs.drop (o + 1)) → Upd [r] h h' → k undef h') : SemH PG (storeS T_wire_memory (.pointer (some ⟨r, o, none⟩)) (.agg vs.toArray)) h k := H.putN T_wire_memory.info (by rw [hl]; rfl) (by omega) (by omega) hv (by rw [hl]; exact hk)
theorem T_wire_memory.fill {h : PH} {r : Nat} {vs : List Value} {k : Value → PH → Prop} (hr : h r = none) (hl : vs.length = 1) (hv : ∀ v ∈ vs, isCell v = true) (hk : ∀ h', Bx h' r vs → Ext h h' → k undef h') : SemH PG (storeS T_wire_memory (.pointer (some ⟨r, 0, none⟩)) (.agg vs.toArray)) (h.set r (.cells (zcells PG T_wire_memory) T_wire_memory)) k := Bx.fill hr T_wire_memory.info (by rw [hl]; rfl) (by omega) (by rw [T_wire_memory.zc, hl]; rfl) hv hk
theorem T_wire_memory.f0 {b o : Nat} : SemP PG (Instr.fieldAt T_wire_memory (.pointer (some ⟨b, o, none⟩)) 0) = some (.pointer (some ⟨b, o, none⟩)) := by kernel_rfl
theorem T_wire_memory.build0 : SemP PG (Instr.build T_wire_memory #[]) = some (Value.agg #[Value.int IntKind.i64 0]) := by kernel_rfl
theorem T_p_strings_Builder.und : PG.underlying T_p_strings_Builder = some (TypeDesc.pointer 77) := Tryz.underlying74
theorem T_p_strings_Builder.info : PG.info? T_p_strings_Builder = some Tryz.t74 := by kernel_rfl
theorem T_p_strings_Builder.size : Tryz.t74.size = 1 := rfl
theorem T_p_strings_Builder.bytes : Tryz.t74.bytes = 8 := rfl
theorem T_p_strings_Builder.zero : Tryz.t74.zero = some (Value.pointer none) := rfl
theorem T_p_strings_Builder.zbox {h : PH} {r : Nat} : Bx (h.set r (.cells (zcells PG T_p_strings_Builder) T_p_strings_Builder)) r ((Value.pointer none)).cells.toList := Bx.zero (by kernel_rfl)
theorem T_p_strings_Builder.zc : zcells PG T_p_strings_Builder = ((Value.pointer none)).cells := by kernel_rfl
theorem T_p_strings_Builder.load {h : PH} {a : Addr} : SemE PG h (Instr.loadAt T_p_strings_Builder (.pointer (some a))) = cellH h a := loadAt_cell T_p_strings_Builder.und rfl
theorem T_p_strings_Builder.put {h : PH} {r o : Nat} {cs : List Value} {v : Value} {k : Value → PH → Prop} (H : Bx h r cs) (ho : o < cs.length) (hv : isCell v = true) (hk : ∀ h', Bx h' r (cs.set o v) → Upd [r] h h' → k undef h') : SemH PG (storeS T_p_strings_Builder (.pointer (some ⟨r, o, none⟩)) v) h k := H.put1 T_p_strings_Builder.und rfl T_p_strings_Builder.info T_p_strings_Builder.size ho hv hk
theorem T_p_strings_Builder.fill {h : PH} {r : Nat} {v : Value} {k : Value → PH → Prop} (hr : h r = none) (hv : isCell v = true) (hk : ∀ h', Bx h' r [v] → Ext h h' → k undef h') : SemH PG (storeS T_p_strings_Builder (.pointer (some ⟨r, 0, none⟩)) v) (h.set r (.cells (zcells PG T_p_strings_Builder) T_p_strings_Builder)) k := Bx.fill1 hr T_p_strings_Builder.und rfl T_p_strings_Builder.info T_p_strings_Builder.size (by rw [T_p_strings_Builder.zc]; rfl) hv hk
theorem T_sl_uint8.und : PG.underlying T_sl_uint8 = some (TypeDesc.slice 5) := Tryz.underlying75
theorem T_sl_uint8.info : PG.info? T_sl_uint8 = some Tryz.t75 := by kernel_rfl
theorem T_sl_uint8.size : Tryz.t75.size = 1 := rfl
theorem T_sl_uint8.bytes : Tryz.t75.bytes = 24 := rfl
theorem T_sl_uint8.zero : Tryz.t75.zero = some (Value.slice none 0 0) := rfl
theorem T_sl_uint8.zbox {h : PH} {r : Nat} : Bx (h.set r (.cells (zcells PG T_sl_uint8) T_sl_uint8)) r ((Value.slice none 0 0)).cells.toList := Bx.zero (by kernel_rfl)
theorem T_sl_uint8.zc : zcells PG T_sl_uint8 = ((Value.slice none 0 0)).cells := by kernel_rfl
theorem T_sl_uint8.load {h : PH} {a : Addr} : SemE PG h (Instr.loadAt T_sl_uint8 (.pointer (some a))) = cellH h a := loadAt_cell T_sl_uint8.und rfl
theorem T_sl_uint8.put {h : PH} {r o : Nat} {cs : List Value} {v : Value} {k : Value → PH → Prop} (H : Bx h r cs) (ho : o < cs.length) (hv : isCell v = true) (hk : ∀ h', Bx h' r (cs.set o v) → Upd [r] h h' → k undef h') : SemH PG (storeS T_sl_uint8 (.pointer (some ⟨r, o, none⟩)) v) h k := H.put1 T_sl_uint8.und rfl T_sl_uint8.info T_sl_uint8.size ho hv hk
theorem T_sl_uint8.fill {h : PH} {r : Nat} {v : Value} {k : Value → PH → Prop} (hr : h r = none) (hv : isCell v = true) (hk : ∀ h', Bx h' r [v] → Ext h h' → k undef h') : SemH PG (storeS T_sl_uint8 (.pointer (some ⟨r, 0, none⟩)) v) (h.set r (.cells (zcells PG T_sl_uint8) T_sl_uint8)) k := Bx.fill1 hr T_sl_uint8.und rfl T_sl_uint8.info T_sl_uint8.size (by rw [T_sl_uint8.zc]; rfl) hv hk
theorem T_sl_uint8.len {a : Option Addr} {n c : Nat} {t : TypeId} : SemP PG (Builtin.len_ #[T_sl_uint8] t #[.slice a n c]) = some (.int .i64 n) := len_slice T_sl_uint8.und
theorem T_strings_Builder.und : PG.underlying T_strings_Builder = some (TypeDesc.struct #[{ name := "addr", type := 74, offset := 0, embedded := false, tag := "", pkgPath := "strings", byteOffset := 0 }, { name := "buf", type := 75, offset := 1, embedded := false, tag := "", pkgPath := "strings", byteOffset := 8 }]) := Tryz.underlying77
theorem T_strings_Builder.info : PG.info? T_strings_Builder = some Tryz.t77 := by kernel_rfl
theorem T_strings_Builder.size : Tryz.t77.size = 2 := rfl
theorem T_strings_Builder.bytes : Tryz.t77.bytes = 32 := rfl
theorem T_strings_Builder.zero : Tryz.t77.zero = some (Value.agg #[Value.pointer none, Value.slice none 0 0]) := rfl
theorem T_strings_Builder.zbox {h : PH} {r : Nat} : Bx (h.set r (.cells (zcells PG T_strings_Builder) T_strings_Builder)) r ((Value.agg #[Value.pointer none, Value.slice none 0 0])).cells.toList := Bx.zero (by kernel_rfl)
theorem T_strings_Builder.zc : zcells PG T_strings_Builder = ((Value.agg #[Value.pointer none, Value.slice none 0 0])).cells := by kernel_rfl
theorem T_strings_Builder.loadAgg {h : PH} {b o : Nat} {c : Array Value} {e : TypeId} {fr : Nat × Nat} (hb : h b = some (.cells c e fr)) (hle : o + 2 ≤ c.size) : SemE PG h (Instr.loadAt T_strings_Builder (.pointer (some ⟨b, o, none⟩))) = some (.agg (c.extract o (o + 2))) := loadAt_agg T_strings_Builder.und rfl T_strings_Builder.info T_strings_Builder.size hb hle
theorem T_strings_Builder.agg {h : PH} {r o : Nat} {cs : List Value} (H : Bx h r cs) (hle : o + 2 ≤ cs.length) : SemE PG h (Instr.loadAt T_strings_Builder (.pointer (some ⟨r, o, none⟩))) = some (.agg ((cs.drop o).take 2).toArray) := H.agg T_strings_Builder.und rfl T_strings_Builder.info T_strings_Builder.size hle
theorem T_strings_Builder.put {h : PH} {r o : Nat} {cs vs : List Value} {k : Value → PH → Prop} (H : Bx h r cs) (hl : vs.length = 2) (ho : o + 2 ≤ cs.length) (hv : ∀ v ∈ vs, isCell v = true) (hk : ∀ h', Bx h' r (cs.take o ++ vs ++ cs.drop (o + 2)) → Upd [r] h h' → k undef h') : SemH PG (storeS T_strings_Builder (.pointer (some ⟨r, o, none⟩)) (.agg vs.toArray)) h k := H.putN T_strings_Builder.info (by rw [hl]; rfl) (by omega) (by omega) hv (by rw [hl]; exact hk)
theorem T_strings_Builder.fill {h : PH} {r : Nat} {vs : List Value} {k : Value → PH → Prop} (hr : h r = none) (hl : vs.length = 2) (hv : ∀ v ∈ vs, isCell v = true) (hk : ∀ h', Bx h' r vs → Ext h h' → k undef h') : SemH PG (storeS T_strings_Builder (.pointer (some ⟨r, 0, none⟩)) (.agg vs.toArray)) (h.set r (.cells (zcells PG T_strings_Builder) T_strings_Builder)) k := Bx.fill hr T_strings_Builder.info (by rw [hl]; rfl) (by omega) (by rw [T_strings_Builder.zc, hl]; rfl) hv hk
theorem T_strings_Builder.f0 {b o : Nat} : SemP PG (Instr.fieldAt T_strings_Builder (.pointer (some ⟨b, o, none⟩)) 0) = some (.pointer (some ⟨b, o, none⟩)) := by kernel_rfl
theorem T_strings_Builder.f1 {b o : Nat} : SemP PG (Instr.fieldAt T_strings_Builder (.pointer (some ⟨b, o, none⟩)) 1) = some (.pointer (some ⟨b, o + 1, none⟩)) := by kernel_rfl
theorem T_strings_Builder.build0 : SemP PG (Instr.build T_strings_Builder #[]) = some (Value.agg #[Value.pointer none, Value.slice none 0 0]) := by kernel_rfl
theorem T_wire_Writer.und : PG.underlying T_wire_Writer = some (TypeDesc.struct #[{ name := "m", type := 73, offset := 0, embedded := false, tag := "", pkgPath := "carrack/wire", byteOffset := 0 }, { name := "b", type := 77, offset := 1, embedded := false, tag := "", pkgPath := "carrack/wire", byteOffset := 8 }]) := Tryz.underlying79
theorem T_wire_Writer.info : PG.info? T_wire_Writer = some Tryz.t79 := by kernel_rfl
theorem T_wire_Writer.size : Tryz.t79.size = 3 := rfl
theorem T_wire_Writer.bytes : Tryz.t79.bytes = 40 := rfl
theorem T_wire_Writer.zero : Tryz.t79.zero = some (Value.agg #[Value.int IntKind.i64 0, Value.pointer none, Value.slice none 0 0]) := rfl
theorem T_wire_Writer.zbox {h : PH} {r : Nat} : Bx (h.set r (.cells (zcells PG T_wire_Writer) T_wire_Writer)) r ((Value.agg #[Value.int IntKind.i64 0, Value.pointer none, Value.slice none 0 0])).cells.toList := Bx.zero (by kernel_rfl)
theorem T_wire_Writer.zc : zcells PG T_wire_Writer = ((Value.agg #[Value.int IntKind.i64 0, Value.pointer none, Value.slice none 0 0])).cells := by kernel_rfl
theorem T_wire_Writer.loadAgg {h : PH} {b o : Nat} {c : Array Value} {e : TypeId} {fr : Nat × Nat} (hb : h b = some (.cells c e fr)) (hle : o + 3 ≤ c.size) : SemE PG h (Instr.loadAt T_wire_Writer (.pointer (some ⟨b, o, none⟩))) = some (.agg (c.extract o (o + 3))) := loadAt_agg T_wire_Writer.und rfl T_wire_Writer.info T_wire_Writer.size hb hle
theorem T_wire_Writer.agg {h : PH} {r o : Nat} {cs : List Value} (H : Bx h r cs) (hle : o + 3 ≤ cs.length) : SemE PG h (Instr.loadAt T_wire_Writer (.pointer (some ⟨r, o, none⟩))) = some (.agg ((cs.drop o).take 3).toArray) := H.agg T_wire_Writer.und rfl T_wire_Writer.info T_wire_Writer.size hle
theorem T_wire_Writer.put {h : PH} {r o : Nat} {cs vs : List Value} {k : Value → PH → Prop} (H : Bx h r cs) (hl : vs.length = 3) (ho : o + 3 ≤ cs.length) (hv : ∀ v ∈ vs, isCell v = true) (hk : ∀ h', Bx h' r (cs.take o ++ vs ++ cs.drop (o + 3)) → Upd [r] h h' → k undef h') : SemH PG (storeS T_wire_Writer (.pointer (some ⟨r, o, none⟩)) (.agg vs.toArray)) h k := H.putN T_wire_Writer.info (by rw [hl]; rfl) (by omega) (by omega) hv (by rw [hl]; exact hk)
theorem T_wire_Writer.fill {h : PH} {r : Nat} {vs : List Value} {k : Value → PH → Prop} (hr : h r = none) (hl : vs.length = 3) (hv : ∀ v ∈ vs, isCell v = true) (hk : ∀ h', Bx h' r vs → Ext h h' → k undef h') : SemH PG (storeS T_wire_Writer (.pointer (some ⟨r, 0, none⟩)) (.agg vs.toArray)) (h.set r (.cells (zcells PG T_wire_Writer) T_wire_Writer)) k := Bx.fill hr T_wire_Writer.info (by rw [hl]; rfl) (by omega) (by rw [T_wire_Writer.zc, hl]; rfl) hv hk
theorem T_wire_Writer.f0 {b o : Nat} : SemP PG (Instr.fieldAt T_wire_Writer (.pointer (some ⟨b, o, none⟩)) 0) = some (.pointer (some ⟨b, o, none⟩)) := by kernel_rfl
theorem T_wire_Writer.f1 {b o : Nat} : SemP PG (Instr.fieldAt T_wire_Writer (.pointer (some ⟨b, o, none⟩)) 1) = some (.pointer (some ⟨b, o + 1, none⟩)) := by kernel_rfl
theorem T_wire_Writer.build0 : SemP PG (Instr.build T_wire_Writer #[]) = some (Value.agg #[Value.int IntKind.i64 0, Value.pointer none, Value.slice none 0 0]) := by kernel_rfl
theorem T_sl_string.und : PG.underlying T_sl_string = some (TypeDesc.slice 9) := Tryz.underlying86
theorem T_sl_string.info : PG.info? T_sl_string = some Tryz.t86 := by kernel_rfl
theorem T_sl_string.size : Tryz.t86.size = 1 := rfl
theorem T_sl_string.bytes : Tryz.t86.bytes = 24 := rfl
theorem T_sl_string.zero : Tryz.t86.zero = some (Value.slice none 0 0) := rfl
theorem T_sl_string.zbox {h : PH} {r : Nat} : Bx (h.set r (.cells (zcells PG T_sl_string) T_sl_string)) r ((Value.slice none 0 0)).cells.toList := Bx.zero (by kernel_rfl)
theorem T_sl_string.zc : zcells PG T_sl_string = ((Value.slice none 0 0)).cells := by kernel_rfl
theorem T_sl_string.load {h : PH} {a : Addr} : SemE PG h (Instr.loadAt T_sl_string (.pointer (some a))) = cellH h a := loadAt_cell T_sl_string.und rfl
theorem T_sl_string.put {h : PH} {r o : Nat} {cs : List Value} {v : Value} {k : Value → PH → Prop} (H : Bx h r cs) (ho : o < cs.length) (hv : isCell v = true) (hk : ∀ h', Bx h' r (cs.set o v) → Upd [r] h h' → k undef h') : SemH PG (storeS T_sl_string (.pointer (some ⟨r, o, none⟩)) v) h k := H.put1 T_sl_string.und rfl T_sl_string.info T_sl_string.size ho hv hk
theorem T_sl_string.fill {h : PH} {r : Nat} {v : Value} {k : Value → PH → Prop} (hr : h r = none) (hv : isCell v = true) (hk : ∀ h', Bx h' r [v] → Ext h h' → k undef h') : SemH PG (storeS T_sl_string (.pointer (some ⟨r, 0, none⟩)) v) (h.set r (.cells (zcells PG T_sl_string) T_sl_string)) k := Bx.fill1 hr T_sl_string.und rfl T_sl_string.info T_sl_string.size (by rw [T_sl_string.zc]; rfl) hv hk
theorem T_sl_string.len {a : Option Addr} {n c : Nat} {t : TypeId} : SemP PG (Builtin.len_ #[T_sl_string] t #[.slice a n c]) = some (.int .i64 n) := len_slice T_sl_string.und
theorem T_table_id.und : PG.underlying T_table_id = some (TypeDesc.struct #[{ name := "from", type := 3, offset := 0, embedded := false, tag := "", pkgPath := "carrack/table", byteOffset := 0 }, { name := "seq", type := 22, offset := 1, embedded := false, tag := "", pkgPath := "carrack/table", byteOffset := 8 }]) := Tryz.underlying94
theorem T_table_id.info : PG.info? T_table_id = some Tryz.t94 := by kernel_rfl
theorem T_table_id.size : Tryz.t94.size = 2 := rfl
theorem T_table_id.bytes : Tryz.t94.bytes = 16 := rfl
theorem T_table_id.zero : Tryz.t94.zero = some (Value.agg #[Value.int IntKind.i64 0, Value.int IntKind.u64 0]) := rfl
theorem T_table_id.zbox {h : PH} {r : Nat} : Bx (h.set r (.cells (zcells PG T_table_id) T_table_id)) r ((Value.agg #[Value.int IntKind.i64 0, Value.int IntKind.u64 0])).cells.toList := Bx.zero (by kernel_rfl)
theorem T_table_id.zc : zcells PG T_table_id = ((Value.agg #[Value.int IntKind.i64 0, Value.int IntKind.u64 0])).cells := by kernel_rfl
theorem T_table_id.loadAgg {h : PH} {b o : Nat} {c : Array Value} {e : TypeId} {fr : Nat × Nat} (hb : h b = some (.cells c e fr)) (hle : o + 2 ≤ c.size) : SemE PG h (Instr.loadAt T_table_id (.pointer (some ⟨b, o, none⟩))) = some (.agg (c.extract o (o + 2))) := loadAt_agg T_table_id.und rfl T_table_id.info T_table_id.size hb hle
theorem T_table_id.agg {h : PH} {r o : Nat} {cs : List Value} (H : Bx h r cs) (hle : o + 2 ≤ cs.length) : SemE PG h (Instr.loadAt T_table_id (.pointer (some ⟨r, o, none⟩))) = some (.agg ((cs.drop o).take 2).toArray) := H.agg T_table_id.und rfl T_table_id.info T_table_id.size hle
theorem T_table_id.put {h : PH} {r o : Nat} {cs vs : List Value} {k : Value → PH → Prop} (H : Bx h r cs) (hl : vs.length = 2) (ho : o + 2 ≤ cs.length) (hv : ∀ v ∈ vs, isCell v = true) (hk : ∀ h', Bx h' r (cs.take o ++ vs ++ cs.drop (o + 2)) → Upd [r] h h' → k undef h') : SemH PG (storeS T_table_id (.pointer (some ⟨r, o, none⟩)) (.agg vs.toArray)) h k := H.putN T_table_id.info (by rw [hl]; rfl) (by omega) (by omega) hv (by rw [hl]; exact hk)
theorem T_table_id.fill {h : PH} {r : Nat} {vs : List Value} {k : Value → PH → Prop} (hr : h r = none) (hl : vs.length = 2) (hv : ∀ v ∈ vs, isCell v = true) (hk : ∀ h', Bx h' r vs → Ext h h' → k undef h') : SemH PG (storeS T_table_id (.pointer (some ⟨r, 0, none⟩)) (.agg vs.toArray)) (h.set r (.cells (zcells PG T_table_id) T_table_id)) k := Bx.fill hr T_table_id.info (by rw [hl]; rfl) (by omega) (by rw [T_table_id.zc, hl]; rfl) hv hk
theorem T_table_id.f0 {b o : Nat} : SemP PG (Instr.fieldAt T_table_id (.pointer (some ⟨b, o, none⟩)) 0) = some (.pointer (some ⟨b, o, none⟩)) := by kernel_rfl
theorem T_table_id.f1 {b o : Nat} : SemP PG (Instr.fieldAt T_table_id (.pointer (some ⟨b, o, none⟩)) 1) = some (.pointer (some ⟨b, o + 1, none⟩)) := by kernel_rfl
theorem T_table_id.build0 : SemP PG (Instr.build T_table_id #[]) = some (Value.agg #[Value.int IntKind.i64 0, Value.int IntKind.u64 0]) := by kernel_rfl
theorem T_map_table_id_api_Item.und : PG.underlying T_map_table_id_api_Item = some (TypeDesc.map 94 51) := Tryz.underlying96
theorem T_map_table_id_api_Item.info : PG.info? T_map_table_id_api_Item = some Tryz.t96 := by kernel_rfl
theorem T_map_table_id_api_Item.size : Tryz.t96.size = 1 := rfl
theorem T_map_table_id_api_Item.bytes : Tryz.t96.bytes = 8 := rfl
theorem T_map_table_id_api_Item.zero : Tryz.t96.zero = some (Value.map none) := rfl
theorem T_map_table_id_api_Item.zbox {h : PH} {r : Nat} : Bx (h.set r (.cells (zcells PG T_map_table_id_api_Item) T_map_table_id_api_Item)) r ((Value.map none)).cells.toList := Bx.zero (by kernel_rfl)
theorem T_map_table_id_api_Item.zc : zcells PG T_map_table_id_api_Item = ((Value.map none)).cells := by kernel_rfl
theorem T_map_table_id_api_Item.load {h : PH} {a : Addr} : SemE PG h (Instr.loadAt T_map_table_id_api_Item (.pointer (some a))) = cellH h a := loadAt_cell T_map_table_id_api_Item.und rfl
theorem T_map_table_id_api_Item.put {h : PH} {r o : Nat} {cs : List Value} {v : Value} {k : Value → PH → Prop} (H : Bx h r cs) (ho : o < cs.length) (hv : isCell v = true) (hk : ∀ h', Bx h' r (cs.set o v) → Upd [r] h h' → k undef h') : SemH PG (storeS T_map_table_id_api_Item (.pointer (some ⟨r, o, none⟩)) v) h k := H.put1 T_map_table_id_api_Item.und rfl T_map_table_id_api_Item.info T_map_table_id_api_Item.size ho hv hk
theorem T_map_table_id_api_Item.fill {h : PH} {r : Nat} {v : Value} {k : Value → PH → Prop} (hr : h r = none) (hv : isCell v = true) (hk : ∀ h', Bx h' r [v] → Ext h h' → k undef h') : SemH PG (storeS T_map_table_id_api_Item (.pointer (some ⟨r, 0, none⟩)) v) (h.set r (.cells (zcells PG T_map_table_id_api_Item) T_map_table_id_api_Item)) k := Bx.fill1 hr T_map_table_id_api_Item.und rfl T_map_table_id_api_Item.info T_map_table_id_api_Item.size (by rw [T_map_table_id_api_Item.zc]; rfl) hv hk
theorem T_table_Table.und : PG.underlying T_table_Table = some (TypeDesc.struct #[{ name := "of", type := 96, offset := 0, embedded := false, tag := "", pkgPath := "carrack/table", byteOffset := 0 }, { name := "room", type := 3, offset := 1, embedded := false, tag := "", pkgPath := "carrack/table", byteOffset := 8 }]) := Tryz.underlying98
theorem T_table_Table.info : PG.info? T_table_Table = some Tryz.t98 := by kernel_rfl
theorem T_table_Table.size : Tryz.t98.size = 2 := rfl
theorem T_table_Table.bytes : Tryz.t98.bytes = 16 := rfl
theorem T_table_Table.zero : Tryz.t98.zero = some (Value.agg #[Value.map none, Value.int IntKind.i64 0]) := rfl
theorem T_table_Table.zbox {h : PH} {r : Nat} : Bx (h.set r (.cells (zcells PG T_table_Table) T_table_Table)) r ((Value.agg #[Value.map none, Value.int IntKind.i64 0])).cells.toList := Bx.zero (by kernel_rfl)
theorem T_table_Table.zc : zcells PG T_table_Table = ((Value.agg #[Value.map none, Value.int IntKind.i64 0])).cells := by kernel_rfl
theorem T_table_Table.loadAgg {h : PH} {b o : Nat} {c : Array Value} {e : TypeId} {fr : Nat × Nat} (hb : h b = some (.cells c e fr)) (hle : o + 2 ≤ c.size) : SemE PG h (Instr.loadAt T_table_Table (.pointer (some ⟨b, o, none⟩))) = some (.agg (c.extract o (o + 2))) := loadAt_agg T_table_Table.und rfl T_table_Table.info T_table_Table.size hb hle
theorem T_table_Table.agg {h : PH} {r o : Nat} {cs : List Value} (H : Bx h r cs) (hle : o + 2 ≤ cs.length) : SemE PG h (Instr.loadAt T_table_Table (.pointer (some ⟨r, o, none⟩))) = some (.agg ((cs.drop o).take 2).toArray) := H.agg T_table_Table.und rfl T_table_Table.info T_table_Table.size hle
theorem T_table_Table.put {h : PH} {r o : Nat} {cs vs : List Value} {k : Value → PH → Prop} (H : Bx h r cs) (hl : vs.length = 2) (ho : o + 2 ≤ cs.length) (hv : ∀ v ∈ vs, isCell v = true) (hk : ∀ h', Bx h' r (cs.take o ++ vs ++ cs.drop (o + 2)) → Upd [r] h h' → k undef h') : SemH PG (storeS T_table_Table (.pointer (some ⟨r, o, none⟩)) (.agg vs.toArray)) h k := H.putN T_table_Table.info (by rw [hl]; rfl) (by omega) (by omega) hv (by rw [hl]; exact hk)
theorem T_table_Table.fill {h : PH} {r : Nat} {vs : List Value} {k : Value → PH → Prop} (hr : h r = none) (hl : vs.length = 2) (hv : ∀ v ∈ vs, isCell v = true) (hk : ∀ h', Bx h' r vs → Ext h h' → k undef h') : SemH PG (storeS T_table_Table (.pointer (some ⟨r, 0, none⟩)) (.agg vs.toArray)) (h.set r (.cells (zcells PG T_table_Table) T_table_Table)) k := Bx.fill hr T_table_Table.info (by rw [hl]; rfl) (by omega) (by rw [T_table_Table.zc, hl]; rfl) hv hk
theorem T_table_Table.f0 {b o : Nat} : SemP PG (Instr.fieldAt T_table_Table (.pointer (some ⟨b, o, none⟩)) 0) = some (.pointer (some ⟨b, o, none⟩)) := by kernel_rfl
theorem T_table_Table.f1 {b o : Nat} : SemP PG (Instr.fieldAt T_table_Table (.pointer (some ⟨b, o, none⟩)) 1) = some (.pointer (some ⟨b, o + 1, none⟩)) := by kernel_rfl
theorem T_table_Table.build0 : SemP PG (Instr.build T_table_Table #[]) = some (Value.agg #[Value.map none, Value.int IntKind.i64 0]) := by kernel_rfl
theorem T_wire_Reader.und : PG.underlying T_wire_Reader = some (TypeDesc.struct #[{ name := "memory", type := 73, offset := 0, embedded := true, tag := "", pkgPath := "carrack/wire", byteOffset := 0 }, { name := "s", type := 9, offset := 1, embedded := false, tag := "", pkgPath := "carrack/wire", byteOffset := 8 }]) := Tryz.underlying135
theorem T_wire_Reader.info : PG.info? T_wire_Reader = some Tryz.t135 := by kernel_rfl
theorem T_wire_Reader.size : Tryz.t135.size = 2 := rfl
theorem T_wire_Reader.bytes : Tryz.t135.bytes = 24 := rfl
theorem T_wire_Reader.zero : Tryz.t135.zero = some (Value.agg #[Value.int IntKind.i64 0, Value.string { data := #[] }]) := rfl
theorem T_wire_Reader.zbox {h : PH} {r : Nat} : Bx (h.set r (.cells (zcells PG T_wire_Reader) T_wire_Reader)) r ((Value.agg #[Value.int IntKind.i64 0, Value.string { data := #[] }])).cells.toList := Bx.zero (by kernel_rfl)
theorem T_wire_Reader.zc : zcells PG T_wire_Reader = ((Value.agg #[Value.int IntKind.i64 0, Value.string { data := #[] }])).cells := by kernel_rfl
theorem T_wire_Reader.loadAgg {h : PH} {b o : Nat} {c : Array Value} {e : TypeId} {fr : Nat × Nat} (hb : h b = some (.cells c e fr)) (hle : o + 2 ≤ c.size) : SemE PG h (Instr.loadAt T_wire_Reader (.pointer (some ⟨b, o, none⟩))) = some (.agg (c.extract o (o + 2))) := loadAt_agg T_wire_Reader.und rfl T_wire_Reader.info T_wire_Reader.size hb hle
theorem T_wire_Reader.agg {h : PH} {r o : Nat} {cs : List Value} (H : Bx h r cs) (hle : o + 2 ≤ cs.length) : SemE PG h (Instr.loadAt T_wire_Reader (.pointer (some ⟨r, o, none⟩))) = some (.agg ((cs.drop o).take 2).toArray) := H.agg T_wire_Reader.und rfl T_wire_Reader.info T_wire_Reader.size hle
theorem T_wire_Reader.put {h : PH} {r o : Nat} {cs vs : List Value} {k : Value → PH → Prop} (H : Bx h r cs) (hl : vs.length = 2) (ho : o + 2 ≤ cs.length) (hv : ∀ v ∈ vs, isCell v = true) (hk : ∀ h', Bx h' r (cs.take o ++ vs ++ cs.drop (o + 2)) → Upd [r] h h' → k undef h') : SemH PG (storeS T_wire_Reader (.pointer (some ⟨r, o, none⟩)) (.agg vs.toArray)) h k := H.putN T_wire_Reader.info (by rw [hl]; rfl) (by omega) (by omega) hv (by rw [hl]; exact hk)
theorem T_wire_Reader.fill {h : PH} {r : Nat} {vs : List Value} {k : Value → PH → Prop} (hr : h r = none) (hl : vs.length = 2) (hv : ∀ v ∈ vs, isCell v = true) (hk : ∀ h', Bx h' r vs → Ext h h' → k undef h') : SemH PG (storeS T_wire_Reader (.pointer (some ⟨r, 0, none⟩)) (.agg vs.toArray)) (h.set r (.cells (zcells PG T_wire_Reader) T_wire_Reader)) k := Bx.fill hr T_wire_Reader.info (by rw [hl]; rfl) (by omega) (by rw [T_wire_Reader.zc, hl]; rfl) hv hk
theorem T_wire_Reader.f0 {b o : Nat} : SemP PG (Instr.fieldAt T_wire_Reader (.pointer (some ⟨b, o, none⟩)) 0) = some (.pointer (some ⟨b, o, none⟩)) := by kernel_rfl
theorem T_wire_Reader.f1 {b o : Nat} : SemP PG (Instr.fieldAt T_wire_Reader (.pointer (some ⟨b, o, none⟩)) 1) = some (.pointer (some ⟨b, o + 1, none⟩)) := by kernel_rfl
theorem T_wire_Reader.build0 : SemP PG (Instr.build T_wire_Reader #[]) = some (Value.agg #[Value.int IntKind.i64 0, Value.string { data := #[] }]) := by kernel_rfl
theorem T_functable_Table_table_id_api_Packet_api_Errno.und : PG.underlying T_functable_Table_table_id_api_Packet_api_Errno = some (TypeDesc.func #[53, 94, 44] #[34] false) := Tryz.underlying136
theorem T_functable_Table_table_id_api_Packet_api_Errno.info : PG.info? T_functable_Table_table_id_api_Packet_api_Errno = some Tryz.t136 := by kernel_rfl
theorem T_functable_Table_table_id_api_Packet_api_Errno.size : Tryz.t136.size = 1 := rfl
theorem T_functable_Table_table_id_api_Packet_api_Errno.bytes : Tryz.t136.bytes = 8 := rfl
theorem T_functable_Table_table_id_api_Packet_api_Errno.zero : Tryz.t136.zero = some Value.nilFunc := rfl
theorem T_functable_Table_table_id_api_Packet_api_Errno.zbox {h : PH} {r : Nat} : Bx (h.set r (.cells (zcells PG T_functable_Table_table_id_api_Packet_api_Errno) T_functable_Table_table_id_api_Packet_api_Errno)) r (Value.nilFunc).cells.toList := Bx.zero (by kernel_rfl)
theorem T_functable_Table_table_id_api_Packet_api_Errno.zc : zcells PG T_functable_Table_table_id_api_Packet_api_Errno = (Value.nilFunc).cells := by kernel_rfl
theorem T_functable_Table_table_id_api_Packet_api_Errno.load {h : PH} {a : Addr} : SemE PG h (Instr.loadAt T_functable_Table_table_id_api_Packet_api_Errno (.pointer (some a))) = cellH h a := loadAt_cell T_functable_Table_table_id_api_Packet_api_Errno.und rfl
theorem T_functable_Table_table_id_api_Packet_api_Errno.put {h : PH} {r o : Nat} {cs : List Value} {v : Value} {k : Value → PH → Prop} (H : Bx h r cs) (ho : o < cs.length) (hv : isCell v = true) (hk : ∀ h', Bx h' r (cs.set o v) → Upd [r] h h' → k undef h') : SemH PG (storeS T_functable_Table_table_id_api_Packet_api_Errno (.pointer (some ⟨r, o, none⟩)) v) h k := H.put1 T_functable_Table_table_id_api_Packet_api_Errno.und rfl T_functable_Table_table_id_api_Packet_api_Errno.info T_functable_Table_table_id_api_Packet_api_Errno.size ho hv hk
theorem T_functable_Table_table_id_api_Packet_api_Errno.fill {h : PH} {r : Nat} {v : Value} {k : Value → PH → Prop} (hr : h r = none) (hv : isCell v = true) (hk : ∀ h', Bx h' r [v] → Ext h h' → k undef h') : SemH PG (storeS T_functable_Table_table_id_api_Packet_api_Errno (.pointer (some ⟨r, 0, none⟩)) v) (h.set r (.cells (zcells PG T_functable_Table_table_id_api_Packet_api_Errno) T_functable_Table_table_id_api_Packet_api_Errno)) k := Bx.fill1 hr T_functable_Table_table_id_api_Packet_api_Errno.und rfl T_functable_Table_table_id_api_Packet_api_Errno.info T_functable_Table_table_id_api_Packet_api_Errno.size (by rw [T_functable_Table_table_id_api_Packet_api_Errno.zc]; rfl) hv hk
theorem T_5_functable_Table_table_id_api_Packet_api_Errno.und : PG.underlying T_5_functable_Table_table_id_api_Packet_api_Errno = some (TypeDesc.array 5 136) := Tryz.underlying138
theorem T_5_functable_Table_table_id_api_Packet_api_Errno.info : PG.info? T_5_functable_Table_table_id_api_Packet_api_Errno = some Tryz.t138 := by kernel_rfl
theorem T_5_functable_Table_table_id_api_Packet_api_Errno.size : Tryz.t138.size = 5 := rfl
theorem T_5_functable_Table_table_id_api_Packet_api_Errno.bytes : Tryz.t138.bytes = 40 := rfl
theorem T_5_functable_Table_table_id_api_Packet_api_Errno.zero : Tryz.t138.zero = some (Value.agg #[Value.nilFunc, Value.nilFunc, Value.nilFunc, Value.nilFunc, Value.nilFunc]) := rfl
theorem T_5_functable_Table_table_id_api_Packet_api_Errno.zbox {h : PH} {r : Nat} : Bx (h.set r (.cells (zcells PG T_5_functable_Table_table_id_api_Packet_api_Errno) T_5_functable_Table_table_id_api_Packet_api_Errno)) r ((Value.agg #[Value.nilFunc, Value.nilFunc, Value.nilFunc, Value.nilFunc, Value.nilFunc])).cells.toList := Bx.zero (by kernel_rfl)
theorem T_5_functable_Table_table_id_api_Packet_api_Errno.zc : zcells PG T_5_functable_Table_table_id_api_Packet_api_Errno = ((Value.agg #[Value.nilFunc, Value.nilFunc, Value.nilFunc, Value.nilFunc, Value.nilFunc])).cells := by kernel_rfl
theorem T_5_functable_Table_table_id_api_Packet_api_Errno.loadAgg {h : PH} {b o : Nat} {c : Array Value} {e : TypeId} {fr : Nat × Nat} (hb : h b = some (.cells c e fr)) (hle : o + 5 ≤ c.size) : SemE PG h (Instr.loadAt T_5_functable_Table_table_id_api_Packet_api_Errno (.pointer (some ⟨b, o, none⟩))) = some (.agg (c.extract o (o + 5))) := loadAt_agg T_5_functable_Table_table_id_api_Packet_api_Errno.und rfl T_5_functable_Table_table_id_api_Packet_api_Errno.info T_5_functable_Table_table_id_api_Packet_api_Errno.size hb hle
theorem T_5_functable_Table_table_id_api_Packet_api_Errno.agg {h : PH} {r o : Nat} {cs : List Value} (H : Bx h r cs) (hle : o + 5 ≤ cs.length) : SemE PG h (Instr.loadAt T_5_functable_Table_table_id_api_Packet_api_Errno (.pointer (some ⟨r, o, none⟩))) = some (.agg ((cs.drop o).take 5).toArray) := H.agg T_5_functable_Table_table_id_api_Packet_api_Errno.und rfl T_5_functable_Table_table_id_api_Packet_api_Errno.info T_5_functable_Table_table_id_api_Packet_api_Errno.size hle
theorem T_5_functable_Table_table_id_api_Packet_api_Errno.put {h : PH} {r o : Nat} {cs vs : List Value} {k : Value → PH → Prop} (H : Bx h r cs) (hl : vs.length = 5) (ho : o + 5 ≤ cs.length) (hv : ∀ v ∈ vs, isCell v = true) (hk : ∀ h', Bx h' r (cs.take o ++ vs ++ cs.drop (o + 5)) → Upd [r] h h' → k undef h') : SemH PG (storeS T_5_functable_Table_table_id_api_Packet_api_Errno (.pointer (some ⟨r, o, none⟩)) (.agg vs.toArray)) h k := H.putN T_5_functable_Table_table_id_api_Packet_api_Errno.info (by rw [hl]; rfl) (by omega) (by omega) hv (by rw [hl]; exact hk)
theorem T_5_functable_Table_table_id_api_Packet_api_Errno.fill {h : PH} {r : Nat} {vs : List Value} {k : Value → PH → Prop} (hr : h r = none) (hl : vs.length = 5) (hv : ∀ v ∈ vs, isCell v = true) (hk : ∀ h', Bx h' r vs → Ext h h' → k undef h') : SemH PG (storeS T_5_functable_Table_table_id_api_Packet_api_Errno (.pointer (some ⟨r, 0, none⟩)) (.agg vs.toArray)) (h.set r (.cells (zcells PG T_5_functable_Table_table_id_api_Packet_api_Errno) T_5_functable_Table_table_id_api_Packet_api_Errno)) k := Bx.fill hr T_5_functable_Table_table_id_api_Packet_api_Errno.info (by rw [hl]; rfl) (by omega) (by rw [T_5_functable_Table_table_id_api_Packet_api_Errno.zc, hl]; rfl) hv hk
theorem T_sl_int.und : PG.underlying T_sl_int = some (TypeDesc.slice 3) := Tryz.underlying143
theorem T_sl_int.info : PG.info? T_sl_int = some Tryz.t143 := by kernel_rfl
theorem T_sl_int.size : Tryz.t143.size = 1 := rfl
theorem T_sl_int.bytes : Tryz.t143.bytes = 24 := rfl
theorem T_sl_int.zero : Tryz.t143.zero = some (Value.slice none 0 0) := rfl
theorem T_sl_int.zbox {h : PH} {r : Nat} : Bx (h.set r (.cells (zcells PG T_sl_int) T_sl_int)) r ((Value.slice none 0 0)).cells.toList := Bx.zero (by kernel_rfl)
theorem T_sl_int.zc : zcells PG T_sl_int = ((Value.slice none 0 0)).cells := by kernel_rfl
theorem T_sl_int.load {h : PH} {a : Addr} : SemE PG h (Instr.loadAt T_sl_int (.pointer (some a))) = cellH h a := loadAt_cell T_sl_int.und rfl
theorem T_sl_int.put {h : PH} {r o : Nat} {cs : List Value} {v : Value} {k : Value → PH → Prop} (H : Bx h r cs) (ho : o < cs.length) (hv : isCell v = true) (hk : ∀ h', Bx h' r (cs.set o v) → Upd [r] h h' → k undef h') : SemH PG (storeS T_sl_int (.pointer (some ⟨r, o, none⟩)) v) h k := H.put1 T_sl_int.und rfl T_sl_int.info T_sl_int.size ho hv hk
theorem T_sl_int.fill {h : PH} {r : Nat} {v : Value} {k : Value → PH → Prop} (hr : h r = none) (hv : isCell v = true) (hk : ∀ h', Bx h' r [v] → Ext h h' → k undef h') : SemH PG (storeS T_sl_int (.pointer (some ⟨r, 0, none⟩)) v) (h.set r (.cells (zcells PG T_sl_int) T_sl_int)) k := Bx.fill1 hr T_sl_int.und rfl T_sl_int.info T_sl_int.size (by rw [T_sl_int.zc]; rfl) hv hk
theorem T_sl_int.len {a : Option Addr} {n c : Nat} {t : TypeId} : SemP PG (Builtin.len_ #[T_sl_int] t #[.slice a n c]) = some (.int .i64 n) := len_slice T_sl_int.und
theorem T_p_uint8.und : PG.underlying T_p_uint8 = some (TypeDesc.pointer 5) := Tryz.underlying155
theorem T_p_uint8.info : PG.info? T_p_uint8 = some Tryz.t155 := by kernel_rfl
theorem T_p_uint8.size : Tryz.t155.size = 1 := rfl
theorem T_p_uint8.bytes : Tryz.t155.bytes = 8 := rfl
theorem T_p_uint8.zero : Tryz.t155.zero = some (Value.pointer none) := rfl
theorem T_p_uint8.zbox {h : PH} {r : Nat} : Bx (h.set r (.cells (zcells PG T_p_uint8) T_p_uint8)) r ((Value.pointer none)).cells.toList := Bx.zero (by kernel_rfl)
theorem T_p_uint8.zc : zcells PG T_p_uint8 = ((Value.pointer none)).cells := by kernel_rfl
theorem T_p_uint8.load {h : PH} {a : Addr} : SemE PG h (Instr.loadAt T_p_uint8 (.pointer (some a))) = cellH h a := loadAt_cell T_p_uint8.und rfl
theorem T_p_uint8.put {h : PH} {r o : Nat} {cs : List Value} {v : Value} {k : Value → PH → Prop} (H : Bx h r cs) (ho : o < cs.length) (hv : isCell v = true) (hk : ∀ h', Bx h' r (cs.set o v) → Upd [r] h h' → k undef h') : SemH PG (storeS T_p_uint8 (.pointer (some ⟨r, o, none⟩)) v) h k := H.put1 T_p_uint8.und rfl T_p_uint8.info T_p_uint8.size ho hv hk
theorem T_p_uint8.fill {h : PH} {r : Nat} {v : Value} {k : Value → PH → Prop} (hr : h r = none) (hv : isCell v = true) (hk : ∀ h', Bx h' r [v] → Ext h h' → k undef h') : SemH PG (storeS T_p_uint8 (.pointer (some ⟨r, 0, none⟩)) v) (h.set r (.cells (zcells PG T_p_uint8) T_p_uint8)) k := Bx.fill1 hr T_p_uint8.und rfl T_p_uint8.info T_p_uint8.size (by rw [T_p_uint8.zc]; rfl) hv hk
theorem T_unsafe_Pointer.und : PG.underlying T_unsafe_Pointer = some TypeDesc.unsafePointer := Tryz.underlying180
theorem T_unsafe_Pointer.info : PG.info? T_unsafe_Pointer = some Tryz.t180 := by kernel_rfl
theorem T_unsafe_Pointer.size : Tryz.t180.size = 1 := rfl
theorem T_unsafe_Pointer.bytes : Tryz.t180.bytes = 8 := rfl
theorem T_unsafe_Pointer.zero : Tryz.t180.zero = some (Value.pointer none) := rfl
theorem T_unsafe_Pointer.zbox {h : PH} {r : Nat} : Bx (h.set r (.cells (zcells PG T_unsafe_Pointer) T_unsafe_Pointer)) r ((Value.pointer none)).cells.toList := Bx.zero (by kernel_rfl)
theorem T_unsafe_Pointer.zc : zcells PG T_unsafe_Pointer = ((Value.pointer none)).cells := by kernel_rfl
theorem T_unsafe_Pointer.load {h : PH} {a : Addr} : SemE PG h (Instr.loadAt T_unsafe_Pointer (.pointer (some a))) = cellH h a := loadAt_cell T_unsafe_Pointer.und rfl
theorem T_unsafe_Pointer.put {h : PH} {r o : Nat} {cs : List Value} {v : Value} {k : Value → PH → Prop} (H : Bx h r cs) (ho : o < cs.length) (hv : isCell v = true) (hk : ∀ h', Bx h' r (cs.set o v) → Upd [r] h h' → k undef h') : SemH PG (storeS T_unsafe_Pointer (.pointer (some ⟨r, o, none⟩)) v) h k := H.put1 T_unsafe_Pointer.und rfl T_unsafe_Pointer.info T_unsafe_Pointer.size ho hv hk
theorem T_unsafe_Pointer.fill {h : PH} {r : Nat} {v : Value} {k : Value → PH → Prop} (hr : h r = none) (hv : isCell v = true) (hk : ∀ h', Bx h' r [v] → Ext h h' → k undef h') : SemH PG (storeS T_unsafe_Pointer (.pointer (some ⟨r, 0, none⟩)) v) (h.set r (.cells (zcells PG T_unsafe_Pointer) T_unsafe_Pointer)) k := Bx.fill1 hr T_unsafe_Pointer.und rfl T_unsafe_Pointer.info T_unsafe_Pointer.size (by rw [T_unsafe_Pointer.zc]; rfl) hv hk
end Go.Proofs.YtlkjippiaghbmaaGreat
