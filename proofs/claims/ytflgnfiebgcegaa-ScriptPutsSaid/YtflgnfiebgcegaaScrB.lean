/- script: what is written is read as it was. -/
import Derived.Test.YtflgnfiebgcegaaScrPC
set_option linter.unusedSimpArgs false
set_option linter.unusedVariables false
namespace Go.Proofs.Ytflgnfiebgcegaa
open Go
/-! ### what a writer appends when it does not fail -/
theorem wByte_fit {st : Stt} {n : Int} (h : (wByte st n).1 = 0) : st.1 = 0 ∧ 0 ≤ n ∧ n ≤ 255 ∧ wByte st n = (0, st.2 ++ be n.toNat 1) := by
  unfold wByte at h ⊢
  by_cases hn : 0 ≤ n ∧ n ≤ 255
  · rw [if_pos hn] at h ⊢
    simp only at h
    exact ⟨h, hn.1, hn.2, by rw [h]⟩
  · rw [if_neg hn] at h
    simp only at h
    split at h
    · cases h
    · exact absurd h (by assumption)
theorem wNum_fit {st : Stt} {n : Nat} (h : (wNum st n).1 = 0) : st.1 = 0 ∧ wNum st n = (0, st.2 ++ be n 8) := by
  unfold wNum at h ⊢
  simp only at h
  exact ⟨h, by rw [h]⟩
theorem wText_fit {st : Stt} {l : List UInt8} (h : (wText st l).1 = 0) : st.1 = 0 ∧ l.length ≤ 65535 ∧ wText st l = (0, st.2 ++ (be l.length 2 ++ l)) := by
  unfold wText at h ⊢
  by_cases hn : l.length ≤ 65535
  · rw [if_pos hn] at h ⊢
    simp only at h
    exact ⟨h, hn, by rw [h]⟩
  · rw [if_neg hn] at h
    simp only at h
    split at h
    · cases h
    · exact absurd h (by assumption)
theorem be_two (n : Nat) : be n 2 = be (n / 256) 1 ++ be n 1 := by simp [be]
theorem wTwo_fit {st : Stt} {n : Int} (h : (wTwo st n).1 = 0) : st.1 = 0 ∧ 0 ≤ n ∧ n ≤ 65535 ∧ wTwo st n = (0, st.2 ++ (be (n.toNat / 256) 1 ++ be (n.toNat % 256) 1)) := by
  unfold wTwo at h ⊢
  by_cases hn : 0 ≤ n ∧ n ≤ 65535
  · rw [if_pos hn] at h ⊢
    obtain ⟨h1, h2, h3, h4⟩ := wByte_fit h
    obtain ⟨g1, g2, g3, g4⟩ := wByte_fit h1
    refine ⟨g1, hn.1, hn.2, ?_⟩
    rw [h4, g4]
    simp only [List.append_assoc]
    congr 3
    · congr 1; omega
    · congr 1; omega
  · rw [if_neg hn] at h
    obtain ⟨h1, h2, h3, h4⟩ := wByte_fit h
    obtain ⟨g1, g2, g3, g4⟩ := wByte_fit h1
    omega
/-! ### reading it again -/
theorem rGet_be {n c : Nat} (rest : List UInt8) : rGet (0, be n c ++ rest) c = (n % 256 ^ c, (0, rest)) := by
  rw [rGet_ok (by simp [be_len])]
  have e1 : (be n c ++ rest).take c = be n c := by rw [List.take_append_of_le_length (by simp [be_len])]; exact List.take_of_length_le (by simp [be_len])
  have e2 : (be n c ++ rest).drop c = rest := by
    rw [List.drop_append_of_le_length (by simp [be_len]), List.drop_of_length_le (by simp [be_len])]; rfl
  rw [e1, e2, val_be]
theorem rGet_one {n : Int} (h0 : 0 ≤ n) (h1 : n ≤ 255) (rest : List UInt8) : rGet (0, be n.toNat 1 ++ rest) 1 = (n.toNat, (0, rest)) := by
  rw [rGet_be, Nat.mod_eq_of_lt (by omega)]
theorem rGet_eight {n : Nat} (h : n < 18446744073709551616) (rest : List UInt8) : rGet (0, be n 8 ++ rest) 8 = (n, (0, rest)) := by
  rw [rGet_be, Nat.mod_eq_of_lt (by omega)]
theorem rTwo_be {n : Nat} (h : n ≤ 65535) (rest : List UInt8) : rTwo (0, be (n / 256) 1 ++ (be (n % 256) 1 ++ rest)) = (n, (0, rest)) := by
  unfold rTwo
  have a := rGet_be (n := n / 256) (c := 1) (be (n % 256) 1 ++ rest)
  have b := rGet_be (n := n % 256) (c := 1) rest
  simp only [a, b]
  congr 1
  omega
theorem rText_be {l : List UInt8} (h : l.length ≤ 65535) (rest : List UInt8) : rText (0, be l.length 2 ++ (l ++ rest)) = (l, (0, rest)) := by
  unfold rText
  have a := rGet_be (n := l.length) (c := 2) (l ++ rest)
  rw [Nat.mod_eq_of_lt (by omega)] at a
  simp only [a]
  unfold rRaw
  rw [if_pos ⟨rfl, by omega, by simp; omega⟩]
  simp
/-- `w` appends bytes that `f` reads as x. -/
def Tells {α : Type} (w : Stt → Stt) (f : Stt → α × Stt) (x : α) : Prop := ∀ st, (w st).1 = 0 → st.1 = 0 ∧ ∃ bs, w st = (0, st.2 ++ bs) ∧ ∀ rest, f (0, bs ++ rest) = (x, (0, rest))
theorem tells_byte (n : Int) : Tells (fun st => wByte st n) (fun st => rGet st 1) n.toNat := fun st h => by
  obtain ⟨h1, h2, h3, h4⟩ := wByte_fit h
  exact ⟨h1, _, h4, fun rest => rGet_one h2 h3 rest⟩
theorem tells_num {n : Nat} (hn : n < 18446744073709551616) : Tells (fun st => wNum st n) (fun st => rGet st 8) n := fun st h => by
  obtain ⟨h1, h2⟩ := wNum_fit h
  exact ⟨h1, _, h2, fun rest => rGet_eight hn rest⟩
theorem tells_text (l : List UInt8) : Tells (fun st => wText st l) rText l := fun st h => by
  obtain ⟨h1, h2, h3⟩ := wText_fit h
  exact ⟨h1, _, h3, fun rest => by rw [List.append_assoc]; exact rText_be h2 rest⟩
theorem tells_two (n : Int) : Tells (fun st => wTwo st n) rTwo n.toNat := fun st h => by
  obtain ⟨h1, h2, h3, h4⟩ := wTwo_fit h
  exact ⟨h1, _, h4, fun rest => by rw [List.append_assoc]; exact rTwo_be (by omega) rest⟩
theorem Tells.then {α β γ : Type} {w w' : Stt → Stt} {f : Stt → α × Stt} {g : α → Stt → β × Stt} {x : α} {y : β} (mk : α → β → γ) (H : Tells w f x) (H' : Tells w' (g x) y) :
    Tells (fun st => w' (w st)) (fun st => (mk (f st).1 (g (f st).1 (f st).2).1, (g (f st).1 (f st).2).2)) (mk x y) := fun st h => by
  obtain ⟨a1, bs', a2, a3⟩ := H' (w st) h
  obtain ⟨b1, bs, b2, b3⟩ := H st a1
  refine ⟨b1, bs ++ bs', by show w' (w st) = _; rw [a2, b2]; simp, fun rest => ?_⟩
  simp only [List.append_assoc, b3, a3]
theorem tells_none {α : Type} (x : α) : Tells (fun st => st) (fun st => (x, st)) x := fun st h => ⟨h, [], by rw [List.append_nil, ← h], fun rest => rfl⟩
theorem Tells.map {α β : Type} {w : Stt → Stt} {f : Stt → α × Stt} {x : α} (H : Tells w f x) (m : α → β) : Tells w (fun st => (m (f st).1, (f st).2)) (m x) := fun st h => by
  obtain ⟨a1, bs, a2, a3⟩ := H st h
  exact ⟨a1, bs, a2, fun rest => by simp only [a3]⟩
theorem tells_byteI (n : Int) : Tells (fun st => wByte st n) (fun st => (((rGet st 1).1 : Int), (rGet st 1).2)) n := fun st h => by
  obtain ⟨h1, h2, h3, h4⟩ := wByte_fit h
  refine ⟨h1, _, h4, fun rest => ?_⟩
  simp only [rGet_one h2 h3 rest, Int.toNat_of_nonneg h2]
theorem tells_twoI (n : Int) : Tells (fun st => wTwo st n) (fun st => (((rTwo st).1 : Int), (rTwo st).2)) n := fun st h => by
  obtain ⟨h1, h2, h3, h4⟩ := wTwo_fit h
  refine ⟨h1, _, h4, fun rest => ?_⟩
  have e := rTwo_be (n := n.toNat) (by omega) rest
  simp only [List.append_assoc, e, Int.toNat_of_nonneg h2]
theorem tells_wrs : ∀ ws : List Wr, Tells (wWrs ws) (gWr ws.length) ws
  | [] => fun st h => ⟨h, [], by show st = _; rw [List.append_nil, ← (show st.1 = 0 from h)], fun rest => rfl⟩
  | w :: ws => fun st h => by
    have T := Tells.then (fun (l : Nat) (r : Int × List Wr) => (Wr.mk (decide (0 < l)) r.1 :: r.2)) (tells_byte (if w.lasts then 1 else 0)) (g := fun _ => _) (Tells.then (fun a b => (a, b)) (tells_twoI w.torn) (g := fun _ => _) (tells_wrs ws))
    obtain ⟨a1, bs, a2, a3⟩ := T st h
    refine ⟨a1, bs, a2, fun rest => ?_⟩
    have := a3 rest
    show gWr (ws.length + 1) (0, bs ++ rest) = _
    unfold gWr
    rw [if_neg (by simp)]
    refine this.trans ?_
    congr 2
    cases w with
    | mk l t => cases l <;> rfl
theorem tells_forge {m : Msg} (h : m.height < 18446744073709551616) (h2 : m.pseq < 18446744073709551616) (h3 : m.ptimeout < 18446744073709551616) : Tells (pForge m) gForge m :=
  Tells.then (fun (a : Int) (r : Int × Nat × Int × Nat × Nat × List UInt8 × List UInt8) => Msg.mk a r.1 r.2.1 r.2.2.1 r.2.2.2.1 r.2.2.2.2.1 r.2.2.2.2.2.1 r.2.2.2.2.2.2) (tells_byteI m.kind) (g := fun _ => _)
    (Tells.then Prod.mk (tells_byteI m.dest) (g := fun _ => _) (Tells.then Prod.mk (tells_num h) (g := fun _ => _) (Tells.then Prod.mk (tells_byteI m.pfrom) (g := fun _ => _) (Tells.then Prod.mk (tells_num h2) (g := fun _ => _) (Tells.then Prod.mk (tells_num h3) (g := fun _ => _) (Tells.then Prod.mk (tells_text m.pdata) (g := fun _ => _) (tells_text m.proof)))))))
theorem tells_act {K : Nat} {A : Act} (hK : K < 9) (hA : A.kind = K) (ho : A = onlyA A) (ok : ActOk A) : Tells (pAct K A) (gAct K) A := by
  have : K = 0 ∨ K = 1 ∨ K = 2 ∨ K = 3 ∨ K = 4 ∨ K = 5 ∨ K = 6 ∨ K = 7 ∨ K = 8 := by omega
  rcases this with rfl | rfl | rfl | rfl | rfl | rfl | rfl | rfl | rfl
  · have hk : A.kind = 0 := hA
    have e : A = { Act.zero 0 with chain := A.chain, timeout := A.timeout, data := A.data } := ho.trans (by unfold onlyA; simp [hk])
    have T : Tells (pAct 0 A) (gAct 0) { Act.zero 0 with chain := A.chain, timeout := A.timeout, data := A.data } :=
      Tells.then (γ := Act) (fun (a : Int) (r : Nat × List UInt8) => ({ Act.zero 0 with chain := a, timeout := r.1, data := r.2 } : Act)) (tells_byteI A.chain) (g := fun _ => _) (Tells.then Prod.mk (tells_num ok.to) (g := fun _ => _) (tells_text A.data))
    rwa [← e] at T
  · have hk : A.kind = 1 := hA
    have e : A = { Act.zero 1 with chain := A.chain } := ho.trans (by unfold onlyA; simp [hk])
    have T : Tells (pAct 1 A) (gAct 1) { Act.zero 1 with chain := A.chain } := Tells.map (tells_byteI A.chain) (β := Act) (fun a => ({ Act.zero 1 with chain := a } : Act))
    rwa [← e] at T
  · have hk : A.kind = 2 := hA
    have e : A = Act.zero 2 := ho.trans (by unfold onlyA; simp [hk])
    have T : Tells (pAct 2 A) (gAct 2) (Act.zero 2) := tells_none _
    rwa [← e] at T
  · have hk : A.kind = 3 := hA
    have e : A = { Act.zero 3 with n := A.n } := ho.trans (by unfold onlyA; simp [hk])
    have T : Tells (pAct 3 A) (gAct 3) { Act.zero 3 with n := A.n } := Tells.map (tells_byteI A.n) (β := Act) (fun a => ({ Act.zero 3 with n := a } : Act))
    rwa [← e] at T
  · have hk : A.kind = 4 := hA
    have e : A = { Act.zero 4 with n := A.n } := ho.trans (by unfold onlyA; simp [hk])
    have T : Tells (pAct 4 A) (gAct 4) { Act.zero 4 with n := A.n } := Tells.map (tells_byteI A.n) (β := Act) (fun a => ({ Act.zero 4 with n := a } : Act))
    rwa [← e] at T
  · have hk : A.kind = 5 := hA
    have e : A = { Act.zero 5 with n := A.n } := ho.trans (by unfold onlyA; simp [hk])
    have T : Tells (pAct 5 A) (gAct 5) { Act.zero 5 with n := A.n } := Tells.map (tells_byteI A.n) (β := Act) (fun a => ({ Act.zero 5 with n := a } : Act))
    rwa [← e] at T
  · have hk : A.kind = 6 := hA
    have e : A = { Act.zero 6 with msg := A.msg } := ho.trans (by unfold onlyA; simp [hk])
    have T : Tells (pAct 6 A) (gAct 6) { Act.zero 6 with msg := A.msg } := Tells.map (tells_forge ok.he ok.ps ok.pt) (β := Act) (fun a => ({ Act.zero 6 with msg := a } : Act))
    rwa [← e] at T
  · have hk : A.kind = 7 := hA
    have e : A = { Act.zero 7 with n := A.n } := ho.trans (by unfold onlyA; simp [hk])
    have T : Tells (pAct 7 A) (gAct 7) { Act.zero 7 with n := A.n } := Tells.map (tells_byteI A.n) (β := Act) (fun a => ({ Act.zero 7 with n := a } : Act))
    rwa [← e] at T
  · have hk : A.kind = 8 := hA
    have e : A = { Act.zero 8 with writes := A.writes } := ho.trans (by unfold onlyA; simp [hk])
    have T : Tells (pAct 8 A) (gAct 8) { Act.zero 8 with writes := A.writes } :=
      Tells.then (γ := Act) (fun (_ : Nat) (l : List Wr) => ({ Act.zero 8 with writes := l } : Act)) (w := fun st => wByte st A.writes.length) (w' := wWrs A.writes) (tells_byte A.writes.length) (g := gWr) (tells_wrs A.writes)
    rwa [← e] at T
theorem put_back {A : Act} (ok : ActOk A) {bs : List UInt8} (h : putA A = (bs, 0)) (rest : List UInt8) : entL (bs ++ rest) = ⟨A, 0⟩ :: entL rest := by
  unfold putA at h
  split at h
  · simp at h
  · rename_i hc
    simp only [not_or, Classical.not_not] at hc
    obtain ⟨h0, h9, ho⟩ := hc
    unfold wBytes at h
    split at h
    · rename_i he
      simp only [Prod.mk.injEq, and_true] at h
      have hK : A.kind = (A.kind.toNat : Int) := by omega
      obtain ⟨a1, b2, a2, a3⟩ := tells_act (show A.kind.toNat < 9 by omega) hK ho ok _ he
      obtain ⟨c1, c2, c3, c4⟩ := wByte_fit a1
      rw [a2, c4] at h
      simp only [List.nil_append] at h
      have hb : be A.kind.toNat 1 = [UInt8.ofNat A.kind.toNat] := by simp [be, Nat.mod_eq_of_lt (show A.kind.toNat < 256 by omega)]
      rw [hb] at h
      rw [← h, List.append_assoc, List.singleton_append, entL_cons]
      have ht : (UInt8.ofNat A.kind.toNat).toNat = A.kind.toNat := by simp; omega
      rw [ht, if_neg (by omega), a3 rest, if_neg (by simp)]
    · rename_i he
      simp only [Prod.mk.injEq] at h
      exact absurd h.2 he
theorem tells_cfg {c : Cfg} (hc : CfgOk c) : Tells (pCfg c) gCfg c := by
  have T := Tells.then (fun (a : Int) (r : Int × Int × Int × Int × Nat × Nat × Nat × Nat) => Cfg.mk r.2.2.1 r.2.2.2.1 a r.1 r.2.1 r.2.2.2.2.1 r.2.2.2.2.2.1 r.2.2.2.2.2.2.1 r.2.2.2.2.2.2.2) (tells_byteI c.table) (g := fun _ => _)
    (Tells.then Prod.mk (tells_byteI c.batch) (g := fun _ => _) (Tells.then Prod.mk (tells_byteI c.scan) (g := fun _ => _) (Tells.then Prod.mk (tells_twoI c.sector) (g := fun _ => _) (Tells.then Prod.mk (tells_twoI c.sectors) (g := fun _ => _) (Tells.then Prod.mk (tells_num hc.o0) (g := fun _ => _) (Tells.then Prod.mk (tells_num hc.o1) (g := fun _ => _) (Tells.then Prod.mk (tells_num hc.o2) (g := fun _ => _) (tells_num hc.o3))))))))
  exact T
theorem putC_back {c : Cfg} (hc : CfgOk c) {bs : List UInt8} (h : putC c = (bs, 0)) (rest : List UInt8) : cfgL (bs ++ rest) = (c, rest, 0) := by
  unfold putC wBytes at h
  split at h
  · rename_i he
    simp only [Prod.mk.injEq, and_true] at h
    obtain ⟨a1, b2, a2, a3⟩ := tells_cfg hc _ he
    rw [a2] at h
    simp only [List.nil_append] at h
    subst h
    unfold cfgL
    rw [a3 rest]; rfl
  · rename_i he
    simp only [Prod.mk.injEq] at h
    exact absurd h.2 he
theorem putC_no {c : Cfg} (h : (putC c).2 ≠ 0) : (putC c).1 = [] := by
  unfold putC wBytes at h ⊢
  split at h
  · exact absurd rfl h
  · rename_i he; rw [if_neg he]
end Go.Proofs.Ytflgnfiebgcegaa
