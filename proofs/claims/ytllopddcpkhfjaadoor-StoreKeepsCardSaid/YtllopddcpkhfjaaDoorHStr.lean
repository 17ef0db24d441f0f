/- Texts as lists of bytes: put together, cut, looked into; numbers as bytes, and back. -/
import Derived.Test.YtllopddcpkhfjaaDoorHArr
import Derived.Laws.Strings
set_option linter.unusedSimpArgs false
set_option linter.unusedVariables false
namespace Go.Proofs.YtllopddcpkhfjaaDoor
open Go
def tx (l : List UInt8) : ByteArray := ⟨l.toArray⟩
theorem tx_list (s : ByteArray) : tx s.data.toList = s := by cases s; simp [tx]
theorem tx_size (l : List UInt8) : (tx l).size = l.length := by simp [tx, ByteArray.size]
theorem tx_inj {a b : List UInt8} (h : tx a = tx b) : a = b := by
  have := congrArg (fun s : ByteArray => s.data.toList) h
  simpa [tx] using this
theorem tx_nil : tx [] = ⟨#[]⟩ := rfl
theorem tx_append (a b : List UInt8) : tx a ++ tx b = tx (a ++ b) := by
  apply ByteArray.ext
  rw [ByteArray.data_append]
  simp [tx]
section
variable {P : Program} {h : PH} {t t' t2 e : TypeId}
theorem add_tx {a b : List UInt8} (hs : a.length + b.length ≤ 9223372036854775807) : SemP P (binOp .add t (.string (tx a)) (.string (tx b))) = some (.string (tx (a ++ b))) := by
  show SemP P (Op.stringOp .add (tx a) (tx b)) = _
  have : ¬ (((tx a).size + (tx b).size : Nat) : Int) > IntKind.i64.max := by
    rw [tx_size, tx_size]
    have : IntKind.i64.max = 9223372036854775807 := rfl
    omega
  simp only [Op.stringOp, this, if_false]
  rw [tx_append]; rfl
theorem cut_tx {l : List UInt8} {i j : Nat} {lo hi : Option Value} (hu : P.underlying t = some .string) (hlo : lo = none ∧ i = 0 ∨ ∃ k, lo = some (.int k i)) (hhi : hi = none ∧ j = l.length ∨ ∃ k, hi = some (.int k j)) (h1 : i ≤ j) (h2 : j ≤ l.length) :
    SemP P (Instr.sliceAt t (.string (tx l)) lo hi none) = some (.string (tx ((l.take j).drop i))) := by
  show SemP P (underlying t >>= _) = _
  rw [semP_und hu]
  show SemP P (underlying t >>= _) = _
  rw [semP_und hu]
  have hb : Instr.sliceBounds false (tx l).size (tx l).size lo hi none = pure (i, j, (tx l).size) := by
    have hcast : ∀ n m : Nat, n ≤ m → (0 ≤ (n : Int) ∧ (n : Int) ≤ (m : Int)) := fun n m h => by omega
    rw [tx_size]
    rcases hlo with ⟨rfl, rfl⟩ | ⟨k, rfl⟩ <;> rcases hhi with ⟨rfl, rfl⟩ | ⟨k', rfl⟩ <;>
      simp [Instr.sliceBounds, Instr.sliceBound, asIntOf, hcast, h1, h2]
  simp only [hb, pure_bind, Option.isSome_none, Bool.false_eq_true, if_false]
  show some (Value.string ((tx l).extract i j)) = _
  congr 2
  apply ByteArray.ext
  apply Array.ext'
  rw [ByteArray.data_extract]
  simp [tx, List.extract_eq_take_drop, List.drop_take]
theorem index_tx {l : List UInt8} {k : IntKind} {j : Nat} {b : UInt8} (hu : P.underlying t = some .string) (hb : l[j]? = some b) : SemP P (Instr.index t (.string (tx l)) (.int k j)) = some (.int .u8 b.toNat) := by
  show SemP P (underlying t >>= _) = _
  rw [semP_und hu]
  have h0 : (0 : Int) ≤ (j : Int) := by omega
  simp only [h0, if_true, Int.toNat_natCast]
  have : (tx l)[j]? = some b := by
    obtain ⟨hlt, rfl⟩ := List.getElem?_eq_some_iff.1 hb
    have hs : j < (tx l).size := by rw [tx_size]; exact hlt
    rw [getElem?_pos (tx l) j hs]
    congr 1
  rw [this]; rfl
/-- A text as bytes: a new block. -/
theorem bytes_of {l : List UInt8} (hu : P.underlying t = some .string) (hu2 : P.underlying t2 = some (.slice e)) (he : P.underlying e = some (.int .u8)) (hl : l.length ≤ 140737488355328) {k : Value → PH → Prop}
    (hk : ∀ v h', SlR h' 1 v (l.map bcell) → Ext h h' → k v h') : SemH P (convert t t2 (.string (tx l))) h k := by
  show SemH P (underlying t >>= _) h k
  rw [semH_und hu]
  show SemH P (underlying t2 >>= _) h k
  rw [semH_und hu2]
  show SemH P (underlying e >>= _) h k
  rw [semH_und he]
  show SemH P (choose (.appendCap (tx l).size 0 e) >>= _) h k
  rw [semH_choose]
  intro tt
  have hforced : (Question.appendCap (tx l).size 0 e).forced = false := rfl
  rw [hforced]
  have hcut : (tx l).size ≤ (Question.appendCap (tx l).size 0 e).cut tt ∧ (Question.appendCap (tx l).size 0 e).cut tt ≤ maxL := by
    rw [tx_size]
    have hpos : 0 < 2 ^ 63 - l.length := by omega
    have := Nat.mod_lt tt hpos
    simp only [Question.cut, maxL]
    omega
  simp only [Bool.false_eq_true, if_false]
  generalize (Question.appendCap (tx l).size 0 e).cut tt = cap at *
  obtain ⟨c1, c2⟩ := hcut
  intro r hr
  generalize hcs : ((tx l).data.map fun b => Value.int .u8 b.toNat) ++ Array.replicate (cap - (tx l).size) (.int .u8 0) = cs
  have hsz : cs.size = cap := by rw [← hcs]; simp [tx, ByteArray.size] at *; omega
  have u1 : Ext h (h.set r (.cells cs e)) := Upd.new hr
  show SemH P (markStringish ⟨r, 0, none⟩ >>= fun _ => pure (Value.slice (some ⟨r, 0, none⟩) (tx l).size cap)) (h.set r (.cells cs e)) k
  unfold markStringish
  have hshape : shapeH (h.set r (.cells cs e)) r = some (some (e, cs.size)) := by unfold shapeH; rw [set_same]
  show ∃ s, shapeH (h.set r (.cells cs e)) r = some s ∧ _
  refine ⟨_, hshape, ?_⟩
  show (∃ o, (h.set r (.cells cs e)) r = some o) ∧ _
  refine ⟨⟨_, set_same⟩, ?_⟩
  show k (.slice (some ⟨r, 0, none⟩) (tx l).size cap) (freezeH (h.set r (.cells cs e)) ⟨r, cs.size, none⟩ 1)
  have hf : freezeH (h.set r (.cells cs e)) ⟨r, cs.size, none⟩ 1 = h.set r (.cells cs e (cs.size, cs.size + 1)) := by
    funext b
    unfold freezeH PH.set
    simp only [Nat.one_ne_zero, if_false]
    by_cases hb : b = r
    · subst hb; simp
    · simp [hb]
  rw [hf]
  refine hk _ _ ⟨bcell.rows _, some ⟨r, 0, none⟩, cap, by rw [tx_size, List.length_map], by rw [List.length_map, ← tx_size]; exact c1, c2, fun _ => ⟨r, 0, cs, e, _, rfl, set_same, ?_, ?_⟩, trivial⟩ (Upd.new hr)
  · rw [List.length_map, hsz, ← tx_size]; omega
  · rw [bcell.flat, List.length_map]
    have e1 : cs.toList = (l.map fun b => Value.int .u8 b.toNat) ++ List.replicate (cap - (tx l).size) (.int .u8 0) := by rw [← hcs]; simp [tx]
    rw [Array.toList_extract, List.extract_eq_take_drop, e1]
    simp
/-- append(v, s...): v one's own bytes; s a text. -/
theorem append_str {bytes : Nat} {v : Value} {rows : List (List Value)} {l : List UInt8} {F : List Nat} {i : TypeInfo} {z : Value} {k : Value → PH → Prop}
    (hu : P.underlying t = some (.slice e)) (hu2 : P.underlying t2 = some .string) (hi : P.info? e = some i) (hn : i.size = 1) (hby : i.bytes = bytes) (hz : i.zero = some z) (hzs : z.cells.size = 1) (hb0 : 0 < bytes)
    (H : OwnR h e 1 v rows F) (hl : (rows.length + l.length) * bytes ≤ 140737488355328)
    (hk : ∀ v' h' F', OwnR h' e 1 v' (rows ++ l.map bcell) F' → Upd F h h' → (∀ b ∈ F', b ∈ F ∨ h b = none) → capOf v ≤ capOf v' → k v' h') : SemH P (Builtin.append_ #[t, t2] t' #[v, .string (tx l)]) h k := by
  generalize hys : l.map bcell = ys at *
  have hyl : ys.length = l.length := by rw [← hys, List.length_map]
  have hSok : Rows 1 ys := by rw [← hys]; exact bcell.rows l
  have hcell : ∀ r ∈ ys, ∀ u ∈ r, isCell u = true := by rw [← hys]; exact bcell.isCell l
  rw [← hyl] at hl
  have hfirst : SemE P h (Builtin.firstCells 1 ys.length (.string (tx l))) = some ys.flatten.toArray := by
    show some (((tx l).extract 0 ys.length).data.map fun b => Value.int .u8 b.toNat) = _
    rw [hyl, ← hys, bcell.flat]
    congr 1
    apply Array.ext'
    rw [ByteArray.data_extract]
    simp [tx, List.extract_eq_take_drop]
  have hbig : rows.length + ys.length ≤ 140737488355328 := Nat.le_trans (Nat.le_mul_of_pos_right _ hb0) hl
  have hrows : Rows 1 (rows ++ ys) := H.ok.append hSok
  have hflat : ∀ u ∈ ys.flatten, isCell u = true := fun u hu => by
    obtain ⟨r, hr, hur⟩ := List.mem_flatten.1 hu; exact hcell r hr u hur
  -- a new block
  have grown : ∀ (m : Nat), rows.length + ys.length ≤ m → m ≤ maxL → capOf v ≤ m → ∀ r, h r = none →
      k (.slice (some ⟨r, 0, none⟩) (rows.length + ys.length) m) (h.set r (.cells (rows.flatten.toArray ++ ys.flatten.toArray ++ Builtin.zeroCells z.cells (m - (rows.length + ys.length))) e (0, 0))) := by
    intro m hm hmax hcapv r hr
    refine hk _ _ [r] ⟨hrows, .inr ⟨r, m, _, by rw [List.length_append], rfl, set_same, by simpa using hm, hmax, ?_, ?_⟩⟩ (Upd.new hr) (fun b hb => .inr (by simp at hb; subst hb; exact hr)) hcapv
    · simp only [Array.size_append, List.size_toArray, H.ok.flat, hSok.flat, Builtin.zeroCells, Array.size_map, Array.size_range, hzs]
      rw [← Nat.add_mul, ← Nat.add_mul]; congr 1; omega
    · have hlen : (rows ++ ys).length * 1 = (rows.flatten ++ ys.flatten).length := by rw [List.length_append, List.length_append, H.ok.flat, hSok.flat, Nat.add_mul]
      simp only [Array.toList_append, hlen, List.flatten_append]
      rw [List.take_append_of_le_length (Nat.le_refl _), List.take_length]
  obtain ⟨va, vc, hv, hv1, hv2, _, _⟩ := H.slR.here
  have hvfirst := H.slR.first (P := P)
  subst hv
  simp only [Builtin.append_, List.getElem?_toArray, List.getElem?_cons_zero, List.getElem?_cons_succ, semH_und hu, semH_und hu2, sizeOf_bind, semH_info hi, pure_bind, Bool.false_eq_true, if_false, Builtin.lenOf, Bool.not_false, if_true, hn, tx_size, ← hyl]
  by_cases hfit : rows.length + ys.length ≤ vc
  · rw [if_pos hfit]
    refine semH_of_semE hfirst ?_
    rcases H.here with ⟨hv', hr, hF⟩ | ⟨b, cap, cs, hv', hF, hb, hle, hcap, hcs, htake⟩
    · subst hr
      simp only [List.length_nil, Value.slice.injEq, true_and] at hv'
      obtain ⟨rfl, rfl⟩ := hv'
      have hy : ys = [] := List.eq_nil_of_length_eq_zero (by omega)
      subst hy
      exact hk _ _ [] (by simpa using OwnR.nil) Upd.refl (by simp) (Nat.le_refl _)
    · simp only [Value.slice.injEq, true_and] at hv'
      obtain ⟨rfl, rfl⟩ := hv'
      have hmul : (rows.length + ys.length) * 1 ≤ vc * 1 := Nat.mul_le_mul_right _ hfit
      have hadd : (⟨b, 0, none⟩ : Addr).add (rows.length * 1) = ⟨b, 0 + rows.length * 1, none⟩ := plain_add ..
      show SemH P (storeCells ((⟨b, 0, none⟩ : Addr).add (rows.length * 1)) ys.flatten.toArray.toList >>= fun _ => pure _) h k
      rw [hadd]
      refine SemH.bind (P := P) (s := storeCells _ _) ?_
      refine semH_storeCells _ 0 h cs hb (by simp only [hSok.flat, hcs]; rw [Nat.add_mul] at hmul; omega) (by simpa using hflat) ?_
      show k _ _
      simp only [Nat.zero_add, Nat.add_zero]
      have fin : ∀ cs' : Array Value, cs'.size = cs.size → cs'.toList.take ((rows.length + ys.length) * 1) = rows.flatten ++ ys.flatten → ∀ h' : PH, h' b = some (.cells cs' e (0, 0)) → Upd F h h' →
          k (.slice (some ⟨b, 0, none⟩) (rows.length + ys.length) vc) h' := by
        intro cs' hsz htk h' hb' hu'
        refine hk _ _ [b] ⟨hrows, .inr ⟨b, vc, cs', by rw [List.length_append], rfl, hb', by simpa using hfit, hcap, by rw [hsz, hcs], by rw [List.length_append, htk, List.flatten_append]⟩⟩ hu' (fun b' hb' => .inl (hF ▸ hb')) (Nat.le_refl _)
      split
      · rename_i hys
        refine fin cs rfl ?_ h hb Upd.refl
        have : ys.length * 1 = 0 := by rw [← hSok.flat, hys]; rfl
        rw [Nat.add_mul, this, hys, List.append_nil, Nat.add_zero]; exact htake
      · refine fin _ (writeA_size _ _ _) ?_ _ set_same (Upd.set (by rw [hF]; simp))
        have hlen : rows.length * 1 + ys.flatten.length ≤ cs.size := by rw [hSok.flat, ← Nat.add_mul, hcs]; exact hmul
        rw [writeA_list _ _ _ hlen, htake]
        have hlen2 : (rows.length + ys.length) * 1 = (rows.flatten ++ ys.flatten).length := by rw [List.length_append, H.ok.flat, hSok.flat, Nat.add_mul]
        rw [hlen2, List.take_append_of_le_length (Nat.le_refl _), List.take_length]
  · rw [if_neg hfit]
    have hlt : vc < rows.length + ys.length := by omega
    have h63 : ¬ (((rows.length + ys.length : Nat) : Int) > IntKind.i64.max ∧ (False ∨ i.bytes = 0)) := by
      rintro ⟨_, hh⟩
      rcases hh with hh | hh
      · exact hh
      · omega
    have hfits : ¬ (Builtin.nextslicecap (rows.length + ys.length) vc * i.bytes > 2 ^ 48) := by
      rw [hby]
      have := growslice_fits hlt hl
      omega
    rw [semH_info hi, if_neg h63, semH_info hi, if_neg hfits, semH_choose]
    intro tt
    rw [semH_info hi, semH_askRoom]
    refine semH_of_semE hvfirst (semH_of_semE hfirst ?_)
    have hzv : zeroValue e = (typeInfo e >>= fun i => match i.zero with | some v => pure v | none => unsupported (.resourceLimit "a value of more than 2^22 cells")) := rfl
    rw [hzv, bind_assoc, semH_info hi, hz, pure_bind]
    have hcut : ∀ n m : Nat, n ≤ 140737488355328 → n ≤ (Question.appendCap n m e).cut tt ∧ (Question.appendCap n m e).cut tt ≤ maxL := by
      intro n m hn
      have hpos : 0 < 2 ^ 63 - n := by omega
      have := Nat.mod_lt tt hpos
      simp only [Question.cut, maxL]
      omega
    have hforced : (Question.appendCap (rows.length + ys.length) vc e).forced = false := rfl
    rw [hforced]
    obtain ⟨hc1, hc2⟩ := hcut (rows.length + ys.length) vc hbig
    intro r hr
    exact grown _ hc1 hc2 (show vc ≤ _ by omega) r hr

end

/-! ### numbers as bytes -/
theorem snoc_ind {α : Type} {p : List α → Prop} (h0 : p []) (hs : ∀ l a, p l → p (l ++ [a])) (l : List α) : p l := by
  rw [← List.reverse_reverse l]
  induction l.reverse with
  | nil => exact h0
  | cons a l ih => rw [List.reverse_cons]; exact hs _ _ ih
def val (l : List UInt8) : Nat := l.foldl (fun a b => a * 256 + b.toNat) 0
theorem val_snoc (l : List UInt8) (b : UInt8) : val (l ++ [b]) = val l * 256 + b.toNat := by simp [val]
def be (n : Nat) : Nat → List UInt8
  | 0 => []
  | k + 1 => be (n / 256) k ++ [UInt8.ofNat (n % 256)]
theorem be_len (n k : Nat) : (be n k).length = k := by
  induction k generalizing n with
  | zero => rfl
  | succ k ih => simp [be, ih]
theorem val_be (n k : Nat) : val (be n k) = n % 256 ^ k := by
  induction k generalizing n with
  | zero => simp [be, val]; omega
  | succ k ih =>
    rw [be, val_snoc, ih]
    have : (UInt8.ofNat (n % 256)).toNat = n % 256 := by simp
    rw [this, Nat.pow_succ, Nat.mul_comm (256 ^ k) 256, Nat.mod_mul]
    omega
theorem val_lt (l : List UInt8) : val l < 256 ^ l.length := by
  refine snoc_ind (p := fun l => val l < 256 ^ l.length) (by simp [val]) (fun l b ih => ?_) l
  · rw [val_snoc, List.length_append, List.length_singleton, Nat.pow_succ]
    have := b.toNat_lt
    have : val l + 1 ≤ 256 ^ l.length := ih
    have h2 : (val l + 1) * 256 ≤ 256 ^ l.length * 256 := Nat.mul_le_mul_right _ this
    omega
theorem be_get (n : Nat) : ∀ (k i : Nat), i < k → (be n k)[i]? = some (UInt8.ofNat (n / 256 ^ (k - 1 - i) % 256))
  | 0, i, h => by omega
  | k + 1, i, h => by
    rw [be, List.getElem?_append, be_len]
    by_cases hi : i < k
    · rw [if_pos hi, be_get (n / 256) k i hi, Nat.div_div_eq_div_mul, show k + 1 - 1 - i = (k - 1 - i) + 1 by omega, Nat.pow_succ, Nat.mul_comm 256]
    · have : i = k := by omega
      subst this
      simp
theorem be_take_succ {n k i : Nat} (hi : i < k) : (be n k).take (i + 1) = (be n k).take i ++ [UInt8.ofNat (n / 256 ^ (k - 1 - i) % 256)] := by
  rw [List.take_add_one, be_get n k i hi]; rfl
theorem be_val (l : List UInt8) : be (val l) l.length = l := by
  refine snoc_ind (p := fun l => be (val l) l.length = l) rfl (fun l b ih => ?_) l
  · rw [List.length_append, List.length_singleton, be, val_snoc]
    have := b.toNat_lt
    have e1 : (val l * 256 + b.toNat) / 256 = val l := by omega
    have e2 : (val l * 256 + b.toNat) % 256 = b.toNat := by omega
    rw [e1, e2, ih]
    simp
end Go.Proofs.YtllopddcpkhfjaaDoor
