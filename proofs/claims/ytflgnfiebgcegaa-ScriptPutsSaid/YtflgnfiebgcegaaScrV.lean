/- script: what the writer tells is what the document's texts are. -/
import Derived.Test.YtflgnfiebgcegaaScrBB
set_option linter.unusedSimpArgs false
set_option linter.unusedVariables false
namespace Go.Proofs.Ytflgnfiebgcegaa
open Go
/-- A number's low bytes. -/
def nb (x : Int) (c : Nat) : List UInt8 := be (IntKind.u64.wrap x).toNat c
theorem nb_nat {n : Int} (h0 : 0 ≤ n) (h1 : n < 18446744073709551616) (c : Nat) : nb n c = be n.toNat c := by
  unfold nb; rw [u64_wrap h0 h1]
theorem nb_mod (x : Int) : nb x 1 = be (x % 256).toNat 1 := by
  have h1 : ((IntKind.u64.wrap x).toNat : Int) % 256 = x % 256 := by
    unfold IntKind.wrap
    simp [IntKind.signed, IntKind.bits]
    omega
  unfold nb
  simp only [be, List.nil_append, List.cons.injEq, and_true]
  congr 1
  omega
theorem nb_mod2 (x : Int) : nb x 2 = be ((x % 65536).toNat / 256) 1 ++ be ((x % 65536).toNat % 256) 1 := by
  have h1 : ((IntKind.u64.wrap x).toNat : Int) % 65536 = x % 65536 := by
    unfold IntKind.wrap
    simp [IntKind.signed, IntKind.bits]
    omega
  unfold nb
  simp only [be, List.nil_append, List.cons_append, List.cons.injEq, and_true]
  constructor
  · congr 1; omega
  · congr 1; omega
structure Writes (w : Stt → Stt) (ok : Prop) (out : List UInt8) : Prop where
  yes : ∀ bs, ok → w (0, bs) = (0, bs ++ out)
  no : ∀ bs, ¬ ok → (w (0, bs)).1 = 1
  bad : ∀ bs, (w (1, bs)).1 = 1
theorem Writes.then {w w' : Stt → Stt} {ok ok' : Prop} {out out' : List UInt8} (H : Writes w ok out) (H' : Writes w' ok' out') : Writes (fun st => w' (w st)) (ok ∧ ok') (out ++ out') where
  yes := fun bs h => by show w' (w (0, bs)) = _; rw [H.yes bs h.1, H'.yes _ h.2, List.append_assoc]
  no := fun bs h => by
    show (w' (w (0, bs))).1 = 1
    by_cases h1 : ok
    · rw [H.yes bs h1]; exact H'.no _ fun h2 => h ⟨h1, h2⟩
    · have e : w (0, bs) = (1, (w (0, bs)).2) := Prod.ext (H.no bs h1) rfl
      rw [e]; exact H'.bad _
  bad := fun bs => by
    show (w' (w (1, bs))).1 = 1
    have e : w (1, bs) = (1, (w (1, bs)).2) := Prod.ext (H.bad bs) rfl
    rw [e]; exact H'.bad _
theorem Writes.byte (n : Int) : Writes (fun st => wByte st n) (0 ≤ n ∧ n ≤ 255) (nb n 1) where
  yes := fun bs h => by show wByte (0, bs) n = _; unfold wByte; rw [if_pos h, nb_nat h.1 (by omega)]
  no := fun bs h => by show (wByte (0, bs) n).1 = 1; unfold wByte; rw [if_neg h]; rfl
  bad := fun bs => by show (wByte (1, bs) n).1 = 1; unfold wByte; split <;> rfl
theorem Writes.num (n : Nat) : Writes (fun st => wNum st n) True (be n 8) where
  yes := fun bs h => rfl
  no := fun bs h => absurd trivial h
  bad := fun bs => rfl
theorem Writes.text (l : List UInt8) : Writes (fun st => wText st l) (l.length ≤ 65535) (be l.length 2 ++ l) where
  yes := fun bs h => by show wText (0, bs) l = _; unfold wText; rw [if_pos h]
  no := fun bs h => by show (wText (0, bs) l).1 = 1; unfold wText; rw [if_neg h]; rfl
  bad := fun bs => by show (wText (1, bs) l).1 = 1; unfold wText; split <;> rfl
theorem Writes.two (n : Int) : Writes (fun st => wTwo st n) (0 ≤ n ∧ n ≤ 65535) (nb n 2) where
  yes := fun bs h => by
    show wTwo (0, bs) n = _
    unfold wTwo
    rw [if_pos h]
    have a : wByte (0, bs) (n / 256) = _ := (Writes.byte (n / 256)).yes bs (by omega)
    have b : ∀ bs, wByte (0, bs) (n % 256) = _ := fun bs => (Writes.byte (n % 256)).yes bs (by omega)
    rw [a, b, nb_mod2, List.append_assoc, nb_nat (by omega) (by omega), nb_nat (by omega) (by omega)]
    congr 3
    · congr 1; omega
    · congr 1; omega
  no := fun bs h => by
    show (wTwo (0, bs) n).1 = 1
    unfold wTwo
    rw [if_neg h]
    rfl
  bad := fun bs => by
    show (wTwo (1, bs) n).1 = 1
    unfold wTwo
    have key : ∀ (x y : Int), (wByte (wByte (1, bs) x) y).1 = 1 := fun x y => ((Writes.byte x).then (Writes.byte y)).bad bs
    split <;> exact key _ _
theorem Writes.none : Writes (fun st => st) True [] where
  yes := fun bs h => by simp
  no := fun bs h => absurd trivial h
  bad := fun bs => rfl
theorem Writes.iff {w : Stt → Stt} {ok ok' : Prop} {out out' : List UInt8} (H : Writes w ok out) (h : ok ↔ ok') (e : out = out') : Writes w ok' out' := by
  subst e
  exact ⟨fun bs x => H.yes bs (h.2 x), fun bs x => H.no bs fun y => x (h.1 y), H.bad⟩
def wrOut (ws : List Wr) : List UInt8 := (ws.map fun w => [if w.lasts then 1 else 0] ++ nb w.torn 2).flatten
def wrOk (ws : List Wr) : Prop := ∀ w ∈ ws, 0 ≤ w.torn ∧ w.torn ≤ 65535
theorem Writes.wrs : ∀ ws : List Wr, Writes (wWrs ws) (wrOk ws) (wrOut ws)
  | [] => Writes.none.iff ⟨fun _ w hw => by (cases hw), fun _ => trivial⟩ rfl
  | w :: ws => by
    refine Writes.iff (((Writes.byte (if w.lasts then 1 else 0)).then (Writes.two w.torn)).then (Writes.wrs ws)) ?_ ?_
    · unfold wrOk
      constructor
      · rintro ⟨⟨_, h2⟩, h3⟩ x hx
        rcases List.mem_cons.1 hx with rfl | hx
        · exact h2
        · exact h3 x hx
      · intro h
        exact ⟨⟨by split <;> omega, h w (by simp)⟩, fun x hx => h x (by simp [hx])⟩
    · have e : nb (if w.lasts then 1 else 0) 1 = [if w.lasts then 1 else 0] := by cases w.lasts <;> rfl
      rw [e]
      simp [wrOut]
/-- Do an act's numbers fit, and its bytes behind the kind. -/
def rOk (k : Nat) (A : Act) : Prop := match k with
  | 0 => (0 ≤ A.chain ∧ A.chain ≤ 255) ∧ A.data.length ≤ 65535
  | 1 => 0 ≤ A.chain ∧ A.chain ≤ 255
  | 2 => True
  | 6 => (0 ≤ A.msg.kind ∧ A.msg.kind ≤ 255) ∧ (0 ≤ A.msg.dest ∧ A.msg.dest ≤ 255) ∧ (0 ≤ A.msg.pfrom ∧ A.msg.pfrom ≤ 255) ∧ A.msg.pdata.length ≤ 65535 ∧ A.msg.proof.length ≤ 65535
  | 8 => A.writes.length ≤ 255 ∧ wrOk A.writes
  | _ => 0 ≤ A.n ∧ A.n ≤ 255
def rOut (k : Nat) (A : Act) : List UInt8 := match k with
  | 0 => nb A.chain 1 ++ be A.timeout 8 ++ (be A.data.length 2 ++ A.data)
  | 1 => nb A.chain 1
  | 2 => []
  | 6 => nb A.msg.kind 1 ++ nb A.msg.dest 1 ++ be A.msg.height 8 ++ nb A.msg.pfrom 1 ++ be A.msg.pseq 8 ++ be A.msg.ptimeout 8 ++ (be A.msg.pdata.length 2 ++ A.msg.pdata) ++ (be A.msg.proof.length 2 ++ A.msg.proof)
  | 8 => nb A.writes.length 1 ++ wrOut A.writes
  | _ => nb A.n 1
theorem Writes.act {K : Nat} (hK : K < 9) (A : Act) : Writes (pAct K A) (rOk K A) (rOut K A) := by
  have : K = 0 ∨ K = 1 ∨ K = 2 ∨ K = 3 ∨ K = 4 ∨ K = 5 ∨ K = 6 ∨ K = 7 ∨ K = 8 := by omega
  rcases this with rfl | rfl | rfl | rfl | rfl | rfl | rfl | rfl | rfl
  · exact Writes.iff (((Writes.byte A.chain).then (Writes.num A.timeout)).then (Writes.text A.data)) (by simp [rOk]) rfl
  · exact Writes.byte A.chain
  · exact Writes.none
  · exact Writes.byte A.n
  · exact Writes.byte A.n
  · exact Writes.byte A.n
  · exact Writes.iff ((((((((Writes.byte A.msg.kind).then (Writes.byte A.msg.dest)).then (Writes.num A.msg.height)).then (Writes.byte A.msg.pfrom)).then (Writes.num A.msg.pseq)).then (Writes.num A.msg.ptimeout)).then (Writes.text A.msg.pdata)).then (Writes.text A.msg.proof)) (by simp [rOk, and_assoc]) rfl
  · exact Writes.byte A.n
  · exact Writes.iff ((Writes.byte A.writes.length).then (Writes.wrs A.writes)) (by simp [rOk]; omega) rfl
open Classical in
/-- The document's bytes of an act. -/
noncomputable def docA (A : Act) : List UInt8 × Int := if A.kind < 0 ∨ 8 < A.kind ∨ A ≠ onlyA A then ([], 5) else if rOk A.kind.toNat A then (nb A.kind 1 ++ rOut A.kind.toNat A, 0) else ([], 1)
theorem putA_doc (A : Act) : putA A = docA A := by
  unfold putA docA
  by_cases hc : A.kind < 0 ∨ 9 ≤ A.kind ∨ A ≠ onlyA A
  · rw [if_pos hc, if_pos (by
      rcases hc with h | h | h
      · exact .inl h
      · exact .inr (.inl (by omega))
      · exact .inr (.inr h))]
  · rw [if_neg hc, if_neg (by
      rintro (h | h | h)
      · exact hc (.inl h)
      · exact hc (.inr (.inl (by omega)))
      · exact hc (.inr (.inr h)))]
    simp only [not_or] at hc
    have W := (Writes.byte A.kind).then (Writes.act (K := A.kind.toNat) (by omega) A)
    by_cases h : rOk A.kind.toNat A
    · have : pAct A.kind.toNat A (wByte (0, []) A.kind) = _ := W.yes [] ⟨by omega, h⟩
      rw [this, if_pos h]; rfl
    · have : (pAct A.kind.toNat A (wByte (0, []) A.kind)).1 = 1 := W.no [] (fun hh => h hh.2)
      unfold wBytes
      rw [this, if_neg h, if_neg (by decide)]
def cOk (c : Cfg) : Prop := (0 ≤ c.table ∧ c.table ≤ 255) ∧ (0 ≤ c.batch ∧ c.batch ≤ 255) ∧ (0 ≤ c.scan ∧ c.scan ≤ 255) ∧ (0 ≤ c.sector ∧ c.sector ≤ 65535) ∧ (0 ≤ c.sectors ∧ c.sectors ≤ 65535)
def cOut (c : Cfg) : List UInt8 := nb c.table 1 ++ nb c.batch 1 ++ nb c.scan 1 ++ nb c.sector 2 ++ nb c.sectors 2 ++ be c.h0 8 ++ be c.h1 8 ++ be c.s0 8 ++ be c.s1 8
open Classical in
noncomputable def docC (c : Cfg) : List UInt8 × Int := if cOk c then (cOut c, 0) else ([], 1)
theorem putC_doc (c : Cfg) : putC c = docC c := by
  have W : Writes (pCfg c) (cOk c) (cOut c) := Writes.iff (((((((((Writes.byte c.table).then (Writes.byte c.batch)).then (Writes.byte c.scan)).then (Writes.two c.sector)).then (Writes.two c.sectors)).then (Writes.num c.h0)).then (Writes.num c.h1)).then (Writes.num c.s0)).then (Writes.num c.s1)) (by simp [cOk, and_assoc]) rfl
  unfold putC docC
  by_cases h : cOk c
  · rw [W.yes [] h, if_pos h]; rfl
  · have := W.no [] h
    unfold wBytes
    rw [this, if_neg h, if_neg (by decide)]
/-! ### replies -/
structure Rep where
  err : Int
  seq : Nat
  count : Int
  codes : List Int
def wCodes : List Int → Stt → Stt
  | [], st => st
  | c :: cs, st => wCodes cs (wByte st (c % 256))
def wRep (r : Rep) (st : Stt) : Stt := wCodes (r.codes.take 255) (wByte (wTwo (wNum (wByte st (r.err % 256)) r.seq) (r.count % 65536)) (min r.codes.length 255 : Nat))
def wReps : List Rep → Stt → Stt
  | [], st => st
  | r :: rs, st => wReps rs (wRep r st)
def codesOut (l : List Int) : List UInt8 := (l.map fun c => nb c 1).flatten
def repOut (r : Rep) : List UInt8 := nb r.err 1 ++ be r.seq 8 ++ nb r.count 2 ++ be (min r.codes.length 255) 1 ++ codesOut (r.codes.take 255)
def repsOut (l : List Rep) : List UInt8 := (l.map repOut).flatten
theorem Writes.codes : ∀ l : List Int, Writes (wCodes l) True (codesOut l)
  | [] => Writes.none
  | c :: l => Writes.iff ((Writes.byte (c % 256)).then (Writes.codes l)) (by simp; omega) (by rw [nb_nat (by omega) (by omega), ← nb_mod]; rfl)
theorem Writes.rep (r : Rep) : Writes (wRep r) True (repOut r) :=
  Writes.iff (((((Writes.byte (r.err % 256)).then (Writes.num r.seq)).then (Writes.two (r.count % 65536))).then (Writes.byte ((min r.codes.length 255 : Nat) : Int))).then (Writes.codes (r.codes.take 255))) (by simp; omega) (by
    have e1 : nb (r.err % 256) 1 = nb r.err 1 := by rw [nb_nat (by omega) (by omega), ← nb_mod]
    have e2 : nb (r.count % 65536) 2 = nb r.count 2 := by rw [nb_mod2, nb_mod2, Int.emod_emod_of_dvd _ (Int.dvd_refl _)]
    have e3 : nb ((min r.codes.length 255 : Nat) : Int) 1 = be (min r.codes.length 255) 1 := by rw [nb_nat (by omega) (by omega)]; rfl
    rw [e1, e2, e3]; rfl)
theorem Writes.reps : ∀ l : List Rep, Writes (wReps l) True (repsOut l)
  | [] => Writes.none
  | r :: l => Writes.iff ((Writes.rep r).then (Writes.reps l)) (by simp) rfl
end Go.Proofs.Ytflgnfiebgcegaa
