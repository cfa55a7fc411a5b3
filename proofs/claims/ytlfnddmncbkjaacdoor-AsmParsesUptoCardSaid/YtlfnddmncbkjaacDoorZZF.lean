/- The document's reader: plain. -/
import Derived.Test.YtlfnddmncbkjaacDoorZZE
namespace Go.Proofs.YtlfnddmncbkjaacDoor.Fb
set_option linter.unusedVariables false
set_option linter.unusedSimpArgs false
open Go.Lib Go.RowKit
/-- a text that must stand there -/
def eatO (st : Option (List UInt8)) (s : List UInt8) : Option (List UInt8) := match st with
  | none => none
  | some r => if r.take s.length = s then some (r.drop s.length) else none
def isDig (c : UInt8) : Bool := decide (48 ≤ c.toNat ∧ c.toNat ≤ 57)
/-- the digits that stand there, up to so many -/
def digs : Nat → List UInt8 → List UInt8
  | 0, _ => []
  | _ + 1, [] => []
  | n + 1, c :: r => if isDig c then c :: digs n r else []
def valD : Nat → List UInt8 → Nat
  | acc, [] => acc
  | acc, c :: r => valD (10 * acc + (c.toNat - 48)) r
/-- the number that stands there -/
def numO (st : Option (List UInt8)) : Int × Option (List UInt8) := match st with
  | none => (0, none)
  | some r =>
    if digs 10 (if r.head? = some 45 then r.drop 1 else r) = [] ∨ ((digs 10 (if r.head? = some 45 then r.drop 1 else r)).head? = some 48 ∧ (1 < (digs 10 (if r.head? = some 45 then r.drop 1 else r)).length ∨ r.head? = some 45)) then (0, none)
    else (if r.head? = some 45 then -(valD 0 (digs 10 (r.drop 1)) : Int) else (valD 0 (digs 10 r) : Int), some ((if r.head? = some 45 then r.drop 1 else r).drop (digs 10 (if r.head? = some 45 then r.drop 1 else r)).length))
def regO (st : Option (List UInt8)) : Int × Option (List UInt8) := numO (eatO st [120])
def placeO (st : Option (List UInt8)) : Int × Option (List UInt8) := ((regO (eatO st [40])).1, eatO (regO (eatO st [40])).2 [41])
theorem eat_some {st : Option (List UInt8)} {s r : List UInt8} (h : eatO st s = some r) : st = some (s ++ r) := by
  unfold eatO at h
  cases st with
  | none => cases h
  | some q =>
    dsimp only at h
    split at h
    · rename_i e
      injection h with h
      rw [← h]
      conv => lhs; rw [← List.take_append_drop s.length q, e]
    · cases h
theorem eat_app (s r : List UInt8) : eatO (some (s ++ r)) s = some r := by
  unfold eatO
  simp
theorem valD_app : ∀ (d : List UInt8) (acc : Nat) (c : UInt8), valD acc (d ++ [c]) = 10 * valD acc d + (c.toNat - 48)
  | [], acc, c => rfl
  | x :: d, acc, c => by
    rw [List.cons_append]
    unfold valD
    exact valD_app d _ c
theorem valD_mono : ∀ (d : List UInt8) (acc : Nat), acc ≤ valD acc d
  | [], acc => Nat.le_refl _
  | x :: d, acc => by
    unfold valD
    exact Nat.le_trans (by omega) (valD_mono d _)
theorem dec_val : ∀ (n : Nat) (d : List UInt8), d.length = n → d ≠ [] → (∀ c ∈ d, isDig c = true) → (d.head? = some 48 → d.length = 1) → decDigits (valD 0 d) = d := by
  intro n
  induction n with
  | zero =>
    intro d h1 h2
    exact absurd (List.eq_nil_of_length_eq_zero h1) h2
  | succ n ih =>
    intro d h1 h2 h3 h4
    obtain ⟨e, c, rfl⟩ : ∃ e c, d = e ++ [c] := ⟨d.dropLast, d.getLast h2, (List.dropLast_concat_getLast h2).symm⟩
    have hc := of_decide_eq_true (h3 c (by simp))
    rw [valD_app]
    cases e with
    | nil =>
      show decDigits (10 * 0 + (c.toNat - 48)) = [c]
      unfold decDigits
      rw [dif_pos (by omega)]
      congr 1
      apply UInt8.toNat_inj.1
      simp
      omega
    | cons x e =>
      have hx : x.toNat ≠ 48 := by
        intro hx
        have := h4 (by rw [List.cons_append, List.head?_cons]; congr 1; exact UInt8.toNat_inj.1 hx)
        simp at this
      have hxd := of_decide_eq_true (h3 x (by simp))
      have hv : 1 ≤ valD 0 (x :: e) := by
        unfold valD
        exact Nat.le_trans (by omega) (valD_mono e _)
      have hr := ih (x :: e) (by simpa using h1) (by simp) (fun y hy => h3 y (List.mem_append_left _ hy)) (fun hh => by
        rw [List.head?_cons] at hh
        injection hh with hh
        rw [hh] at hx
        exact absurd rfl hx)
      unfold decDigits
      rw [dif_neg (by omega)]
      rw [show (10 * valD 0 (x :: e) + (c.toNat - 48)) / 10 = valD 0 (x :: e) by omega, show (10 * valD 0 (x :: e) + (c.toNat - 48)) % 10 = c.toNat - 48 by omega, hr]
      congr 2
      apply UInt8.toNat_inj.1
      simp
      omega
theorem digs_in : ∀ (n : Nat) (l : List UInt8), ∀ c ∈ digs n l, isDig c = true
  | 0, l, c, h => by unfold digs at h; cases h
  | n + 1, [], c, h => by unfold digs at h; cases h
  | n + 1, x :: r, c, h => by
    unfold digs at h
    split at h
    · rcases List.mem_cons.1 h with rfl | h
      · assumption
      · exact digs_in n r c h
    · cases h
theorem digs_app : ∀ (n : Nat) (l : List UInt8), digs n l ++ l.drop (digs n l).length = l
  | 0, l => by unfold digs; rfl
  | n + 1, [] => by unfold digs; rfl
  | n + 1, x :: r => by
    unfold digs
    split
    · rw [List.cons_append, List.length_cons, List.drop_succ_cons, digs_app n r]
    · rfl
theorem val_pos {d : List UInt8} (hd : d ≠ []) (hin : ∀ c ∈ d, isDig c = true) (h0 : d.head? ≠ some 48) : 1 ≤ valD 0 d := by
  cases d with
  | nil => exact absurd rfl hd
  | cons x e =>
    have hx := of_decide_eq_true (hin x (by simp))
    have : x.toNat ≠ 48 := fun h => h0 (by rw [List.head?_cons]; congr 1; exact UInt8.toNat_inj.1 h)
    unfold valD
    exact Nat.le_trans (by omega) (valD_mono e _)
/-- what is read is a numeral that stood there -/
theorem num_some {st : Option (List UInt8)} {r : List UInt8} (h : (numO st).2 = some r) : st = some (itoa (numO st).1 ++ r) := by
  cases st with
  | none => cases h
  | some q =>
    unfold numO at h ⊢
    dsimp only at h ⊢
    by_cases hb : q.head? = some 45
    · simp only [hb, if_true] at h ⊢
      obtain ⟨p, rfl⟩ : ∃ p, q = 45 :: p := by
        cases q with
        | nil => cases hb
        | cons x p => exact ⟨p, by rw [List.head?_cons] at hb; injection hb with hb; rw [hb]⟩
      rw [List.drop_one, List.tail_cons] at h ⊢
      split at h
      · cases h
      · rename_i hc
        rw [if_neg hc]
        injection h with h
        have hne : digs 10 p ≠ [] := fun e => hc (Or.inl e)
        have h0 : (digs 10 p).head? ≠ some 48 := fun e => hc (Or.inr ⟨e, by simp⟩)
        have hv := val_pos hne (digs_in 10 p) h0
        have hd := dec_val _ _ rfl hne (digs_in 10 p) (fun e => absurd e h0)
        unfold itoa
        rw [if_pos (by dsimp only; omega)]
        have e2 : (-(valD 0 (digs 10 p) : Int)).natAbs = valD 0 (digs 10 p) := by omega
        dsimp only
        rw [e2, hd, ← h, List.cons_append, digs_app]
    · simp only [hb, if_false] at h ⊢
      split at h
      · cases h
      · rename_i hc
        rw [if_neg hc]
        injection h with h
        have hne : digs 10 q ≠ [] := fun e => hc (Or.inl e)
        have hd := dec_val _ _ rfl hne (digs_in 10 q) (fun e => by
          have h1 : ¬ 1 < (digs 10 q).length := fun e2 => hc (Or.inr ⟨e, Or.inl e2⟩)
          have h2 : (digs 10 q).length ≠ 0 := fun e2 => hne (List.eq_nil_of_length_eq_zero e2)
          omega)
        unfold itoa
        rw [if_neg (by dsimp only; omega)]
        dsimp only
        rw [Int.toNat_natCast, hd, ← h, digs_app]
theorem reg_some {st : Option (List UInt8)} {r : List UInt8} (h : (regO st).2 = some r) : st = some (regS (regO st).1 ++ r) := by
  unfold regO at h ⊢
  have h1 := num_some h
  exact eat_some (s := [120]) h1
theorem place_some {st : Option (List UInt8)} {r : List UInt8} (h : (placeO st).2 = some r) : st = some (40 :: (regS (placeO st).1 ++ 41 :: r)) := by
  unfold placeO at h ⊢
  have h1 := eat_some h
  have h2 := reg_some h1
  exact eat_some (s := [40]) h2
end Go.Proofs.YtlfnddmncbkjaacDoor.Fb

/- The document's reader reads each instruction's text, and no other: plain. -/
namespace Go.Proofs.YtlfnddmncbkjaacDoor.Fb
set_option linter.unusedVariables false
set_option linter.unusedSimpArgs false
open Go.Lib Go.RowKit
theorem dec_len : ∀ (k u : Nat), u < 10 ^ (k + 1) → (decDigits u).length ≤ k + 1
  | k, u, h => by
    unfold decDigits
    split
    · simp
    · cases k with
      | zero => omega
      | succ k =>
        have := dec_len k (u / 10) (by rw [Nat.pow_succ] at h; omega)
        simp
        omega
theorem dec_head : ∀ u : Nat, (decDigits u).head? = some 48 → u = 0 := by
  intro u
  induction u using Nat.strongRecOn with
  | _ u ih =>
    intro h
    unfold decDigits at h
    split at h
    · rw [List.head?_cons] at h
      injection h with h
      have := congrArg UInt8.toNat h
      simp at this
      omega
    · obtain ⟨c, r, e, _⟩ := digits_head (u / 10)
      have h2 := ih (u / 10) (by omega) (by rw [e] at h ⊢; simpa using h)
      omega
theorem val_dec : ∀ u : Nat, valD 0 (decDigits u) = u := by
  intro u
  induction u using Nat.strongRecOn with
  | _ u ih =>
    unfold decDigits
    split
    · show 10 * 0 + ((UInt8.ofNat (48 + u)).toNat - 48) = u
      simp
      omega
    · rw [valD_app, ih (u / 10) (by omega)]
      simp
      omega
/-- no digit stands at the head -/
def Stops (r : List UInt8) : Prop := ∀ c, r.head? = some c → isDig c = false
theorem stops_nil : Stops [] := fun c h => by cases h
theorem stops_cons {c : UInt8} (r : List UInt8) (h : isDig c = false) : Stops (c :: r) := fun d hd => by
  rw [List.head?_cons] at hd
  injection hd with hd
  rw [← hd]; exact h
theorem digs_all : ∀ (n : Nat) (d r : List UInt8), d.length ≤ n → (∀ c ∈ d, isDig c = true) → Stops r → digs n (d ++ r) = d
  | 0, d, r, h, _, _ => by
    have := List.eq_nil_of_length_eq_zero (show d.length = 0 by omega)
    subst this
    unfold digs
    rfl
  | n + 1, [], [], _, _, _ => by unfold digs; rfl
  | n + 1, [], c :: r, _, _, hr => by
    rw [List.nil_append]
    unfold digs
    rw [if_neg (by rw [hr c rfl]; decide)]
  | n + 1, x :: d, r, h, hd, hr => by
    rw [List.cons_append]
    unfold digs
    rw [if_pos (hd x (by simp)), digs_all n d r (by simp at h; omega) (fun c hc => hd c (List.mem_cons_of_mem _ hc)) hr]
theorem dec_dig (u : Nat) : ∀ c ∈ decDigits u, isDig c = true := fun c hc => decide_eq_true (digits_in u c hc)
theorem num_app {n : Int} {r : List UInt8} (h : I32 n) (hr : Stops r) : numO (some (itoa n ++ r)) = (n, some r) := by
  obtain ⟨h1, h2⟩ := h
  unfold itoa
  split
  · rename_i hn
    have hl := dec_len 9 n.natAbs (by omega)
    have hd := digs_all 10 (decDigits n.natAbs) r hl (dec_dig _) hr
    have h0 : (decDigits n.natAbs).head? ≠ some 48 := fun e => by have := dec_head _ e; omega
    unfold numO
    rw [List.cons_append]
    dsimp only
    simp only [List.head?_cons, if_true, List.drop_one, List.tail_cons]
    rw [hd, if_neg (by rintro (e | e); exact digits_ne _ e; exact h0 e.1), val_dec, List.drop_append_of_le_length (Nat.le_refl _), List.drop_length, List.nil_append]
    congr 1
    omega
  · rename_i hn
    have hl := dec_len 9 n.toNat (by omega)
    have hd := digs_all 10 (decDigits n.toNat) r hl (dec_dig _) hr
    have hb : (decDigits n.toNat ++ r).head? ≠ some 45 := by
      obtain ⟨c, q, e, hc, _⟩ := digits_head n.toNat
      rw [e, List.cons_append, List.head?_cons]
      intro e2
      injection e2 with e2
      rw [e2] at hc
      exact absurd hc (by decide)
    unfold numO
    dsimp only
    simp only [hb, if_false, or_false]
    rw [hd, if_neg (by
      rintro (e | ⟨e, e2⟩)
      · exact digits_ne _ e
      · have := dec_head _ e
        rw [this] at e2
        have h1 := dec_len 0 0 (by decide)
        omega), val_dec, List.drop_append_of_le_length (Nat.le_refl _), List.drop_length, List.nil_append]
    congr 1
    omega
theorem reg_app {n : Int} {r : List UInt8} (h : I32 n) (hr : Stops r) : regO (some (regS n ++ r)) = (n, some r) := by
  unfold regO
  have := eat_app [120] (itoa n ++ r)
  rw [show regS n ++ r = [120] ++ (itoa n ++ r) from rfl, this]
  exact num_app h hr
theorem place_app {n : Int} {r : List UInt8} (h : I32 n) : placeO (some (40 :: (regS n ++ 41 :: r))) = (n, some r) := by
  have h1 := eat_app [40] (regS n ++ 41 :: r)
  have h2 := reg_app (r := 41 :: r) h (stops_cons _ (by decide))
  have h3 := eat_app [41] r
  unfold placeO
  rw [show (40 :: (regS n ++ 41 :: r)) = [40] ++ (regS n ++ 41 :: r) from rfl, h1, h2]
  exact Prod.ext rfl h3
/-- what follows the first register, by Op: the fields and the number; what is left -/
def bodyO (op a f : Int) (s : Option (List UInt8)) : (Int × Int × Int × Int) × Option (List UInt8) :=
  if op ≤ 3 then ((f, 0, 0, (numO s).1), (numO s).2)
  else if op = 4 ∨ (19 ≤ op ∧ op ≤ 27) ∨ op = 57 then ((f, (regO s).1, 0, (numO (eatO (regO s).2 [44])).1), (numO (eatO (regO s).2 [44])).2)
  else if op ≤ 10 then ((0, f, (regO s).1, (numO (eatO (regO s).2 [44])).1), (numO (eatO (regO s).2 [44])).2)
  else if op ≤ 15 then ((f, (placeO (numO s).2).1, 0, (numO s).1), (placeO (numO s).2).2)
  else if op ≤ 18 then ((0, (placeO (numO s).2).1, f, (numO s).1), (placeO (numO s).2).2)
  else if op ≤ 45 then ((f, (regO s).1, (regO (eatO (regO s).2 [44])).1, 0), (regO (eatO (regO s).2 [44])).2)
  else if op = 46 then ((f, (placeO s).1, 0, a), (placeO s).2)
  else ((f, (placeO (eatO (regO s).2 [44])).1, (regO s).1, a), (placeO (eatO (regO s).2 [44])).2)
def upO (op n : Int) : Int := if op ≤ 2 then 4096 * n else n
def bodyAt (op a : Int) (t : List UInt8) : (Int × Int × Int × Int) × Option (List UInt8) := bodyO op a (regO (eatO (some t) [32])).1 (eatO (regO (eatO (some t) [32])).2 [44])
/-- what follows a name -/
def readO (op a : Int) (t : List UInt8) : InsD × Bool :=
  if op = 58 ∨ op = 59 then (⟨op, 0, 0, 0, 0⟩, decide (t = []))
  else (⟨op, (bodyAt op a t).1.1, (bodyAt op a t).1.2.1, (bodyAt op a t).1.2.2.1, wrap32 (upO op (bodyAt op a t).1.2.2.2)⟩, decide ((bodyAt op a t).2 = some [] ∧ wrap32 (upO op (bodyAt op a t).1.2.2.2) = upO op (bodyAt op a t).1.2.2.2))
def tailL (l : List UInt8) : List UInt8 := l.drop (headL l).length
theorem text_tail (i : InsD) (h : 1 ≤ i.op ∧ i.op ≤ 59) : tailL (textS i) = if partsS i = [] then [] else 32 :: join (partsS i) [44] := by
  unfold tailL
  rw [text_head i h]
  unfold textS
  split
  · rw [List.drop_length]
  · rw [List.drop_append_of_le_length (Nat.le_refl _), List.drop_length, List.nil_append]
theorem head_tail (l : List UInt8) : headL l ++ tailL l = l := by
  rcases indexByte_cases l with ⟨-, h, -⟩ | ⟨i, -, hi, h, -⟩
  · unfold tailL
    rw [h, List.drop_length, List.append_nil]
  · unfold tailL
    rw [h, List.length_take, Nat.min_eq_left (by omega), List.take_append_drop]
theorem first_app {f : Int} {r : List UInt8} (h : I32 f) : regO (eatO (some (32 :: (regS f ++ 44 :: r))) [32]) = (f, some (44 :: r)) := by
  rw [show (32 :: (regS f ++ 44 :: r)) = [32] ++ (regS f ++ 44 :: r) from rfl, eat_app]
  exact reg_app h (stops_cons _ (by decide))
theorem body_at (op a : Int) {f : Int} {r : List UInt8} (h : I32 f) : bodyAt op a (32 :: (regS f ++ 44 :: r)) = bodyO op a f (some r) := by
  unfold bodyAt
  rw [first_app h]
  dsimp only
  rw [show (44 :: r) = [44] ++ r from rfl, eat_app]
theorem num_end {n : Int} (h : I32 n) : numO (some (itoa n)) = (n, some []) := by
  have := num_app (r := []) h stops_nil
  rwa [List.append_nil] at this
theorem reg_end {n : Int} (h : I32 n) : regO (some (regS n)) = (n, some []) := by
  have := reg_app (r := []) h stops_nil
  rwa [List.append_nil] at this
theorem regc_app {n : Int} {r : List UInt8} (h : I32 n) : regO (some (regS n ++ 44 :: r)) = (n, some (44 :: r)) := reg_app h (stops_cons _ (by decide))
theorem comma (r : List UInt8) : eatO (some (44 :: r)) [44] = some r := eat_app [44] r
theorem at_app {n m : Int} (h : I32 n) : numO (some (atS m (itoa n))) = (n, some (40 :: (regS m ++ [41]))) := num_app h (stops_cons _ (by decide))
theorem at_end {m : Int} (h : I32 m) : placeO (some (40 :: (regS m ++ [41]))) = (m, some []) := place_app h
theorem at_end0 {m : Int} (h : I32 m) : placeO (some (atS m [])) = (m, some []) := place_app h
end Go.Proofs.YtlfnddmncbkjaacDoor.Fb

/- What the document's reader tells: plain. -/
namespace Go.Proofs.YtlfnddmncbkjaacDoor.Fb
set_option linter.unusedVariables false
set_option linter.unusedSimpArgs false
open Go.Lib Go.RowKit
theorem wrap32_in {n : Int} (h : I32 n) : wrap32 n = n := by
  obtain ⟨h1, h2⟩ := h
  unfold wrap32
  omega
theorem read_of {i : InsD} {a m : Int} {t : List UInt8} (hne : ¬ (i.op = 58 ∨ i.op = 59)) (hb : bodyAt i.op a t = ((i.rd, i.rs1, i.rs2, m), some [])) (hu : upO i.op m = i.imm) (wf : I32 i.imm) : readO i.op a t = (i, true) := by
  unfold readO
  rw [if_neg hne, hb]
  dsimp only
  rw [hu, wrap32_in wf]
  simp
theorem reg32 {n : Int} (h : 0 ≤ n ∧ n ≤ 31) : I32 n := ⟨by omega, by omega⟩
theorem read_text (i : InsD) (h : isS i = true) (wf : I32 i.imm) (a : Int) (ha : 46 ≤ i.op ∧ i.op ≤ 56 → a = i.imm) : readO i.op a (tailL (textS i)) = (i, true) := by
  obtain ⟨hop, r1, r2, r3⟩ := isS_regs h
  rw [text_tail i hop]
  obtain ⟨op, rd, rs1, rs2, imm⟩ := i
  unfold isS at h
  rw [Bool.and_eq_true] at h
  obtain ⟨-, h⟩ := h
  dsimp only at h hop r1 r2 r3 ha wf
  have w1 := reg32 r1
  have w2 := reg32 r2
  have w3 := reg32 r3
  by_cases h1 : op ≤ 2
  · rw [if_pos h1] at h
    obtain ⟨rfl, rfl, hm⟩ := of_decide_eq_true h
    have hp : partsS ⟨op, rd, 0, 0, imm⟩ = [regS rd, itoa (imm / 4096)] := by unfold partsS; rw [if_pos h1]
    rw [hp, if_neg (by simp), join2]
    have wm : I32 (imm / 4096) := ⟨by have := wf.1; omega, by have := wf.2; omega⟩
    refine read_of (m := imm / 4096) (by dsimp only; omega) ?_ (by unfold upO; rw [if_pos h1]; dsimp only; omega) wf
    rw [body_at _ _ w1]
    unfold bodyO
    rw [if_pos (by dsimp only; omega), num_end wm]
  by_cases h2 : op = 3
  · rw [if_neg h1, if_pos h2] at h
    obtain ⟨rfl, rfl, hm⟩ := of_decide_eq_true h
    have hp : partsS ⟨op, rd, 0, 0, imm⟩ = [regS rd, itoa imm] := by unfold partsS; rw [if_neg h1, if_pos h2]
    rw [hp, if_neg (by simp), join2]
    refine read_of (m := imm) (by dsimp only; omega) ?_ (by unfold upO; rw [if_neg h1]) wf
    rw [body_at _ _ w1]
    unfold bodyO
    rw [if_pos (by dsimp only; omega), num_end wf]
  by_cases h3 : op = 4 ∨ (19 ≤ op ∧ op ≤ 27) ∨ op = 57
  · have hz : rs2 = 0 := by
      rw [if_neg h1, if_neg h2] at h
      by_cases c : op = 4 ∨ (11 ≤ op ∧ op ≤ 15) ∨ (19 ≤ op ∧ op ≤ 24) ∨ op = 57
      · rw [if_pos c] at h; exact (of_decide_eq_true h).1
      · rw [if_neg c, if_neg (by omega), if_neg (by omega), if_pos (by omega)] at h; exact (of_decide_eq_true h).1
    subst hz
    have hp : partsS ⟨op, rd, rs1, 0, imm⟩ = [regS rd, regS rs1, itoa imm] := by unfold partsS; rw [if_neg h1, if_neg h2, if_pos h3]
    rw [hp, if_neg (by simp), join3]
    refine read_of (m := imm) (by dsimp only; omega) ?_ (by unfold upO; rw [if_neg h1]) wf
    rw [body_at _ _ w1]
    unfold bodyO
    rw [if_neg (by dsimp only; omega), if_pos (by dsimp only; omega), regc_app w2]
    dsimp only
    rw [comma, num_end wf]
  by_cases h4 : op ≤ 10
  · have hz : rd = 0 := by
      rw [if_neg h1, if_neg h2, if_neg (by omega), if_pos (by omega)] at h
      exact (of_decide_eq_true h).1
    subst hz
    have hp : partsS ⟨op, 0, rs1, rs2, imm⟩ = [regS rs1, regS rs2, itoa imm] := by unfold partsS; rw [if_neg h1, if_neg h2, if_neg h3, if_pos h4]
    rw [hp, if_neg (by simp), join3]
    refine read_of (m := imm) (by dsimp only; omega) ?_ (by unfold upO; rw [if_neg h1]) wf
    rw [body_at _ _ w2]
    unfold bodyO
    rw [if_neg (by dsimp only; omega), if_neg (by dsimp only; omega), if_pos (by dsimp only; omega), regc_app w3]
    dsimp only
    rw [comma, num_end wf]
  by_cases h5 : op ≤ 15
  · have hz : rs2 = 0 := by
      rw [if_neg h1, if_neg h2, if_pos (by omega)] at h
      exact (of_decide_eq_true h).1
    subst hz
    have hp : partsS ⟨op, rd, rs1, 0, imm⟩ = [regS rd, atS rs1 (itoa imm)] := by unfold partsS; rw [if_neg h1, if_neg h2, if_neg h3, if_neg h4, if_pos h5]
    rw [hp, if_neg (by simp), join2]
    refine read_of (m := imm) (by dsimp only; omega) ?_ (by unfold upO; rw [if_neg h1]) wf
    rw [body_at _ _ w1]
    unfold bodyO
    rw [if_neg (by dsimp only; omega), if_neg (by dsimp only; omega), if_neg (by dsimp only; omega), if_pos (by dsimp only; omega), at_app wf]
    dsimp only
    rw [at_end w2]
  by_cases h6 : op ≤ 18
  · have hz : rd = 0 := by
      rw [if_neg h1, if_neg h2, if_neg (by omega), if_neg (by omega), if_pos (by omega)] at h
      exact (of_decide_eq_true h).1
    subst hz
    have hp : partsS ⟨op, 0, rs1, rs2, imm⟩ = [regS rs2, atS rs1 (itoa imm)] := by unfold partsS; rw [if_neg h1, if_neg h2, if_neg h3, if_neg h4, if_neg h5, if_pos h6]
    rw [hp, if_neg (by simp), join2]
    refine read_of (m := imm) (by dsimp only; omega) ?_ (by unfold upO; rw [if_neg h1]) wf
    rw [body_at _ _ w3]
    unfold bodyO
    rw [if_neg (by dsimp only; omega), if_neg (by dsimp only; omega), if_neg (by dsimp only; omega), if_neg (by dsimp only; omega), if_pos (by dsimp only; omega), at_app wf]
    dsimp only
    rw [at_end w2]
  by_cases h7 : op ≤ 45
  · have hz : imm = 0 := by
      rw [if_neg h1, if_neg h2, if_neg (by omega), if_neg (by omega), if_neg (by omega), if_neg (by omega), if_pos (by omega)] at h
      exact of_decide_eq_true h
    subst hz
    have hp : partsS ⟨op, rd, rs1, rs2, 0⟩ = [regS rd, regS rs1, regS rs2] := by unfold partsS; rw [if_neg h1, if_neg h2, if_neg h3, if_neg h4, if_neg h5, if_neg h6, if_pos h7]
    rw [hp, if_neg (by simp), join3]
    refine read_of (m := 0) (by dsimp only; omega) ?_ (by unfold upO; rw [if_neg h1]) wf
    rw [body_at _ _ w1]
    unfold bodyO
    rw [if_neg (by dsimp only; omega), if_neg (by dsimp only; omega), if_neg (by dsimp only; omega), if_neg (by dsimp only; omega), if_neg (by dsimp only; omega), if_pos (by dsimp only; omega), regc_app w2]
    dsimp only
    rw [comma, reg_end w3]
  by_cases h8 : op = 46
  · have hz : rs2 = 0 := by
      rw [if_neg h1, if_neg h2, if_neg (by omega), if_neg (by omega), if_neg (by omega), if_neg (by omega), if_neg (by omega), if_pos (by omega)] at h
      exact (of_decide_eq_true h).2.2 h8
    subst hz
    have hp : partsS ⟨op, rd, rs1, 0, imm⟩ = [regS rd, atS rs1 []] := by unfold partsS; rw [if_neg h1, if_neg h2, if_neg h3, if_neg h4, if_neg h5, if_neg h6, if_neg h7, if_pos h8]
    rw [hp, if_neg (by simp), join2]
    refine read_of (m := a) (by dsimp only; omega) ?_ (by unfold upO; rw [if_neg h1]; exact ha (by omega)) wf
    rw [body_at _ _ w1]
    unfold bodyO
    rw [if_neg (by dsimp only; omega), if_neg (by dsimp only; omega), if_neg (by dsimp only; omega), if_neg (by dsimp only; omega), if_neg (by dsimp only; omega), if_neg (by dsimp only; omega), if_pos (by dsimp only; omega), at_end0 w2]
  by_cases h9 : op ≤ 56
  · have hp : partsS ⟨op, rd, rs1, rs2, imm⟩ = [regS rd, regS rs2, atS rs1 []] := by unfold partsS; rw [if_neg h1, if_neg h2, if_neg h3, if_neg h4, if_neg h5, if_neg h6, if_neg h7, if_neg h8, if_pos h9]
    rw [hp, if_neg (by simp), join3]
    refine read_of (m := a) (by dsimp only; omega) ?_ (by unfold upO; rw [if_neg h1]; exact ha (by omega)) wf
    rw [body_at _ _ w1]
    unfold bodyO
    rw [if_neg (by dsimp only; omega), if_neg (by dsimp only; omega), if_neg (by dsimp only; omega), if_neg (by dsimp only; omega), if_neg (by dsimp only; omega), if_neg (by dsimp only; omega), if_neg (by dsimp only; omega), regc_app w3]
    dsimp only
    rw [comma, at_end0 w2]
  · have hz : rd = 0 ∧ rs1 = 0 ∧ rs2 = 0 ∧ imm = 0 := by
      rw [if_neg h1, if_neg h2, if_neg (by omega), if_neg (by omega), if_neg (by omega), if_neg (by omega), if_neg (by omega), if_neg (by omega)] at h
      exact of_decide_eq_true h
    obtain ⟨rfl, rfl, rfl, rfl⟩ := hz
    have hp : partsS ⟨op, 0, 0, 0, 0⟩ = [] := by unfold partsS; rw [if_neg h1, if_neg h2, if_neg h3, if_neg h4, if_neg h5, if_neg h6, if_neg h7, if_neg h8, if_neg h9]
    rw [hp, if_pos rfl]
    unfold readO
    rw [if_pos (by dsimp only; omega)]
    rfl
/-- what is read is the text of what is told -/
theorem body_text {op a n x1 x2 x3 : Int} {t : List UInt8} (ho : 1 ≤ op ∧ op ≤ 57) (hb : bodyAt op a t = ((x1, x2, x3, n), some [])) : partsS ⟨op, x1, x2, x3, upO op n⟩ ≠ [] ∧ t = 32 :: join (partsS ⟨op, x1, x2, x3, upO op n⟩) [44] := by
  unfold bodyAt at hb
  obtain ⟨f, hf⟩ : ∃ f, f = (regO (eatO (some t) [32])).1 := ⟨_, rfl⟩
  have first : ∀ r, eatO (regO (eatO (some t) [32])).2 [44] = some r → t = 32 :: (regS f ++ 44 :: r) := by
    intro r hr
    have e1 := eat_some hr
    have e2 := reg_some e1
    have e3 := eat_some e2
    rw [← hf] at e3
    injection e3
  rw [← hf] at hb
  generalize eatO (regO (eatO (some t) [32])).2 [44] = s at *
  unfold bodyO at hb
  unfold partsS upO
  dsimp only
  by_cases h0 : op ≤ 3
  · rw [if_pos h0] at hb
    simp only [Prod.mk.injEq] at hb
    obtain ⟨⟨rfl, rfl, rfl, hn⟩, hs⟩ := hb
    have e := num_some hs
    rw [hn, List.append_nil] at e
    have ht := first _ e
    by_cases h1 : op ≤ 2
    · rw [if_pos h1, if_pos h1, join2, ht, show 4096 * n / 4096 = n by omega]
      exact ⟨by simp, rfl⟩
    · rw [if_neg h1, if_pos (by omega), if_neg h1, join2, ht]
      exact ⟨by simp, rfl⟩
  rw [if_neg h0] at hb
  rw [if_neg (by omega), if_neg (by omega), if_neg (by omega : ¬ op ≤ 2)]
  by_cases h3 : op = 4 ∨ (19 ≤ op ∧ op ≤ 27) ∨ op = 57
  · rw [if_pos h3] at hb
    simp only [Prod.mk.injEq] at hb
    obtain ⟨⟨rfl, hp, rfl, hn⟩, hs⟩ := hb
    have e := num_some hs
    rw [hn, List.append_nil] at e
    have e2 := reg_some (eat_some e)
    rw [hp] at e2
    have ht := first _ e2
    rw [if_pos h3, join3, ht]
    exact ⟨by simp, rfl⟩
  rw [if_neg h3] at hb ⊢
  by_cases h4 : op ≤ 10
  · rw [if_pos h4] at hb
    simp only [Prod.mk.injEq] at hb
    obtain ⟨⟨rfl, rfl, hp, hn⟩, hs⟩ := hb
    have e := num_some hs
    rw [hn, List.append_nil] at e
    have e2 := reg_some (eat_some e)
    rw [hp] at e2
    have ht := first _ e2
    rw [if_pos h4, join3, ht]
    exact ⟨by simp, rfl⟩
  rw [if_neg h4] at hb ⊢
  by_cases h5 : op ≤ 15
  · rw [if_pos h5] at hb
    simp only [Prod.mk.injEq] at hb
    obtain ⟨⟨rfl, hp, rfl, hn⟩, hs⟩ := hb
    have e := num_some (place_some hs)
    rw [hn, hp] at e
    have ht := first _ e
    rw [if_pos h5, join2, ht]
    exact ⟨by simp, rfl⟩
  rw [if_neg h5] at hb ⊢
  by_cases h6 : op ≤ 18
  · rw [if_pos h6] at hb
    simp only [Prod.mk.injEq] at hb
    obtain ⟨⟨rfl, hp, rfl, hn⟩, hs⟩ := hb
    have e := num_some (place_some hs)
    rw [hn, hp] at e
    have ht := first _ e
    rw [if_pos h6, join2, ht]
    exact ⟨by simp, rfl⟩
  rw [if_neg h6] at hb ⊢
  by_cases h7 : op ≤ 45
  · rw [if_pos h7] at hb
    simp only [Prod.mk.injEq] at hb
    obtain ⟨⟨rfl, hp, hq, rfl⟩, hs⟩ := hb
    have e := reg_some hs
    rw [hq, List.append_nil] at e
    have e2 := reg_some (eat_some e)
    rw [hp] at e2
    have ht := first _ e2
    rw [if_pos h7, join3, ht]
    exact ⟨by simp, rfl⟩
  rw [if_neg h7] at hb ⊢
  by_cases h8 : op = 46
  · rw [if_pos h8] at hb
    simp only [Prod.mk.injEq] at hb
    obtain ⟨⟨rfl, hp, rfl, rfl⟩, hs⟩ := hb
    have e := place_some hs
    rw [hp] at e
    have ht := first _ e
    rw [if_pos h8, join2, ht]
    exact ⟨by simp, rfl⟩
  rw [if_neg h8] at hb ⊢
  simp only [Prod.mk.injEq] at hb
  obtain ⟨⟨rfl, hp, hq, rfl⟩, hs⟩ := hb
  have e := place_some hs
  rw [hp] at e
  have e2 := reg_some (eat_some e)
  rw [hq] at e2
  have ht := first _ e2
  rw [if_pos (by omega), join3, ht]
  exact ⟨by simp, rfl⟩
theorem read_is {op a : Int} {t : List UInt8} {i : InsD} (ho : 1 ≤ op ∧ op ≤ 59) (ha : 0 ≤ a ∧ a ≤ 3) (h : readO op a t = (i, true)) : nameS op a ++ t = textS i ∧ I32 i.imm := by
  unfold readO at h
  by_cases hc : op = 58 ∨ op = 59
  · rw [if_pos hc] at h
    simp only [Prod.mk.injEq] at h
    obtain ⟨rfl, h2⟩ := h
    obtain rfl := of_decide_eq_true h2
    refine ⟨?_, by unfold I32; dsimp only; omega⟩
    unfold textS
    have hp : partsS ⟨op, 0, 0, 0, 0⟩ = [] := by unfold partsS; rw [if_neg (by dsimp only; omega), if_neg (by dsimp only; omega), if_neg (by dsimp only; omega), if_neg (by dsimp only; omega), if_neg (by dsimp only; omega), if_neg (by dsimp only; omega), if_neg (by dsimp only; omega), if_neg (by dsimp only; omega), if_neg (by dsimp only; omega)]
    rw [if_pos hp, List.append_nil]
    unfold nameS
    dsimp only
    rw [if_neg (by omega), if_neg (by omega)]
  · rw [if_neg hc] at h
    obtain ⟨⟨⟨x1, x2, x3, n⟩, st⟩, hb⟩ : ∃ p, bodyAt op a t = p := ⟨_, rfl⟩
    rw [hb] at h
    simp only [Prod.mk.injEq] at h
    obtain ⟨rfl, h2⟩ := h
    obtain ⟨rfl, hw⟩ := of_decide_eq_true h2
    obtain ⟨hne, ht⟩ := body_text (by omega) hb
    have hna : 46 ≤ op ∧ op ≤ 56 → n = a := by
      intro c
      unfold bodyAt bodyO at hb
      rw [if_neg (by omega), if_neg (by omega), if_neg (by omega), if_neg (by omega), if_neg (by omega), if_neg (by omega)] at hb
      by_cases h8 : op = 46
      · rw [if_pos h8] at hb
        simp only [Prod.mk.injEq] at hb
        exact hb.1.2.2.2.symm
      · rw [if_neg h8] at hb
        simp only [Prod.mk.injEq] at hb
        exact hb.1.2.2.2.symm
    rw [hw]
    refine ⟨?_, ?_⟩
    · unfold textS
      rw [if_neg hne, ← ht]
      congr 1
      unfold nameS
      dsimp only
      by_cases c : 46 ≤ op ∧ op ≤ 56
      · rw [if_pos c, if_pos c]
        unfold upO
        rw [if_neg (by omega), hna c]
      · rw [if_neg c, if_neg c]
    · rw [← hw]
      unfold I32 wrap32
      dsimp only
      omega
/-- none of the names up to here is the head -/
def NoName (l : List UInt8) (n : Int) : Prop := ∀ o a, 1 ≤ o → o < n → 0 ≤ a → a ≤ 3 → nameS o a ≠ headL l
def NoNameAt (l : List UInt8) (op n : Int) : Prop := ∀ a, 0 ≤ a → a < n → nameS op a ≠ headL l
theorem noname_one (l : List UInt8) : NoName l 1 := fun _ _ h1 h2 => by omega
theorem noname_zero (l : List UInt8) (op : Int) : NoNameAt l op 0 := fun _ h1 h2 => by omega
theorem NoNameAt.next {l : List UInt8} {op n : Int} (h : NoNameAt l op n) (hn : nameS op n ≠ headL l) : NoNameAt l op (n + 1) := fun a h1 h2 => by
  by_cases e : a = n
  · subst e; exact hn
  · exact h a h1 (by omega)
theorem NoName.next {l : List UInt8} {n : Int} (h : NoName l n) (hn : NoNameAt l n 4) : NoName l (n + 1) := fun o a h1 h2 h3 h4 => by
  by_cases e : o = n
  · subst e; exact hn a h3 (by omega)
  · exact h o a h1 (by omega) h3 h4
theorem noname_all {l : List UInt8} (h : NoName l 60) : ParsedAs l ⟨0, 0, 0, 0, 0⟩ 2 := by
  refine Or.inr ⟨?_, rfl, rfl⟩
  rintro j hj wf rfl
  have hr := (isS_regs hj).1
  have ha := W.isS_atom hj
  refine h j.op (atomOf j) hr.1 (by omega) ?_ ?_ ?_
  · unfold atomOf; split
    · exact (ha (by omega)).1
    · omega
  · unfold atomOf; split
    · exact (ha (by omega)).2
    · omega
  · rw [text_head j hr]
    unfold nameS atomOf
    split <;> rfl
theorem read_hit {l : List UInt8} {op a : Int} {i : InsD} (ho : 1 ≤ op ∧ op ≤ 59) (ha : 0 ≤ a ∧ a ≤ 3) (hn : nameS op a = headL l) (h : readO op a (tailL l) = (i, true)) (hi : isS i = true) : ParsedAs l i 0 := by
  obtain ⟨h1, h2⟩ := read_is ho ha h
  rw [hn, head_tail] at h1
  exact Or.inl ⟨hi, h2, h1.symm, rfl⟩
theorem read_miss {l : List UInt8} {op a : Int} {i : InsD} {ok : Bool} (ho : 1 ≤ op ∧ op ≤ 59) (ha : 0 ≤ a ∧ a ≤ 3) (hn : nameS op a = headL l) (h : readO op a (tailL l) = (i, ok)) (hi : ¬ (ok = true ∧ isS i = true)) : ParsedAs l ⟨0, 0, 0, 0, 0⟩ 2 := by
  refine Or.inr ⟨?_, rfl, rfl⟩
  rintro j hj wf rfl
  have hr := (isS_regs hj).1
  rw [text_head j hr] at hn
  obtain ⟨rfl, h2⟩ := name_inj ho hr hn
  have h3 := read_text j hj wf a (fun c => h2 c ha (W.isS_atom hj c))
  rw [h] at h3
  simp only [Prod.mk.injEq] at h3
  obtain ⟨rfl, rfl⟩ := h3
  exact hi ⟨rfl, hj⟩
end Go.Proofs.YtlfnddmncbkjaacDoor.Fb

/- Digits, one by one: plain. -/
namespace Go.Proofs.YtlfnddmncbkjaacDoor.Fb
set_option linter.unusedVariables false
set_option linter.unusedSimpArgs false
open Go.Lib Go.RowKit
theorem bs_at {l : List UInt8} {k : Nat} {c : UInt8} (h : k < (bs l).size) (hc : l[k]? = some c) : (bs l)[k] = c := by
  have hk : k < l.length := by rw [bs_size] at h; exact h
  rw [List.getElem?_eq_getElem hk] at hc
  exact Option.some.inj hc
theorem digs_le : ∀ (n : Nat) (q : List UInt8), (digs n q).length ≤ n
  | 0, q => by unfold digs; simp
  | n + 1, [] => by unfold digs; simp
  | n + 1, x :: r => by
    unfold digs
    split
    · simp; exact digs_le n r
    · simp
theorem digs_stop : ∀ (n : Nat) (q : List UInt8), (digs n q).length = n ∨ Stops (q.drop (digs n q).length)
  | 0, q => by unfold digs; simp
  | n + 1, [] => by unfold digs; exact Or.inr stops_nil
  | n + 1, x :: r => by
    unfold digs
    split
    · rcases digs_stop n r with h | h
      · exact Or.inl (by simp [h])
      · exact Or.inr (by simpa using h)
    · rename_i hx
      exact Or.inr (stops_cons _ (by simpa using hx))
theorem digs_get {n : Nat} {q : List UInt8} {j : Nat} (h : j < (digs n q).length) : ∃ c, q[j]? = some c ∧ (48 ≤ c.toNat ∧ c.toNat ≤ 57) ∧ (digs n q).take (j + 1) = (digs n q).take j ++ [c] := by
  refine ⟨(digs n q)[j], ?_, of_decide_eq_true (digs_in n q _ (List.getElem_mem h)), ?_⟩
  · conv => lhs; rw [← digs_app n q]
    rw [List.getElem?_append_left h, List.getElem?_eq_getElem h]
  · rw [List.take_add_one, List.getElem?_eq_getElem h]
    rfl
theorem valD_lt : ∀ (d : List UInt8) (acc : Nat), (∀ c ∈ d, isDig c = true) → valD acc d < (acc + 1) * 10 ^ d.length
  | [], acc, _ => by unfold valD; simp
  | c :: r, acc, h => by
    have hc := of_decide_eq_true (h c (List.mem_cons_self ..))
    have := valD_lt r (10 * acc + (c.toNat - 48)) (fun y hy => h y (List.mem_cons_of_mem _ hy))
    unfold valD
    refine Nat.lt_of_lt_of_le this ?_
    rw [List.length_cons, Nat.pow_succ]
    calc (10 * acc + (c.toNat - 48) + 1) * 10 ^ r.length ≤ ((acc + 1) * 10) * 10 ^ r.length := Nat.mul_le_mul_right _ (by omega)
      _ = (acc + 1) * (10 ^ r.length * 10) := by rw [Nat.mul_assoc, Nat.mul_comm 10]
theorem valD_small {d : List UInt8} (h : ∀ c ∈ d, isDig c = true) (hl : d.length ≤ 10) : valD 0 d < 10000000000 := by
  have h1 := valD_lt d 0 h
  have h2 : 10 ^ d.length ≤ 10 ^ 10 := Nat.pow_le_pow_right (by decide) hl
  omega
theorem digs_small (q : List UInt8) (j : Nat) : valD 0 ((digs 10 q).take j) < 10000000000 := by
  refine valD_small (fun c hc => digs_in 10 q c (List.mem_of_mem_take hc)) ?_
  rw [List.length_take]
  have := digs_le 10 q
  omega
/-- the number that stands there, by what the walk knows -/
theorem num_by (l : List UInt8) (k k0 : Nat) (bel : Bool) (hb : bel = decide ((l.drop k).head? = some 45)) (hk : k0 = if bel = true then k + 1 else k) :
    numO (some (l.drop k)) = if digs 10 (l.drop k0) = [] ∨ ((digs 10 (l.drop k0)).head? = some 48 ∧ (1 < (digs 10 (l.drop k0)).length ∨ bel = true)) then (0, none) else (if bel = true then -(valD 0 (digs 10 (l.drop k0)) : Int) else (valD 0 (digs 10 (l.drop k0)) : Int), some (l.drop (k0 + (digs 10 (l.drop k0)).length))) := by
  unfold numO
  dsimp only
  by_cases h : (l.drop k).head? = some 45
  · rw [decide_eq_true h] at hb
    subst hb
    rw [if_pos rfl] at hk
    subst hk
    simp only [h, if_true, List.drop_drop]
  · rw [decide_eq_false h] at hb
    subst hb
    rw [if_neg (by decide)] at hk
    subst hk
    simp only [h, if_false, List.drop_drop]
    simp
end Go.Proofs.YtlfnddmncbkjaacDoor.Fb

/- A text's head, letter by letter; what the document's reader tells is of 32 bits: plain. -/
namespace Go.Proofs.YtlfnddmncbkjaacDoor.Fb
set_option linter.unusedVariables false
set_option linter.unusedSimpArgs false
open Go.Lib Go.RowKit
theorem head_get : ∀ (l : List UInt8) (j : Nat), j < (headL l).length → ∃ c, l[j]? = some c ∧ c ≠ 32
  | [], j, h => by simp [headL] at h
  | b :: l, j, h => by
    unfold headL at h
    by_cases hb : b = 32
    · subst hb
      simp at h
    · rw [List.takeWhile_cons_of_pos (by simpa using hb)] at h
      cases j with
      | zero => exact ⟨b, rfl, hb⟩
      | succ j => exact head_get l j (by simpa [headL] using h)
theorem head_stop : ∀ l : List UInt8, (headL l).length = l.length ∨ l[(headL l).length]? = some 32
  | [] => Or.inl rfl
  | b :: l => by
    unfold headL
    by_cases hb : b = 32
    · subst hb
      exact Or.inr (by simp)
    · rw [List.takeWhile_cons_of_pos (by simpa using hb)]
      rcases head_stop l with h | h
      · exact Or.inl (by simpa [headL] using h)
      · exact Or.inr (by simpa [headL] using h)
theorem head_le (l : List UInt8) : (headL l).length ≤ l.length := (List.takeWhile_sublist _).length_le
theorem head_take (l : List UInt8) : l.take (headL l).length = headL l := by
  have h : (headL l ++ tailL l).take (headL l).length = headL l := by rw [List.take_append_of_le_length (Nat.le_refl _), List.take_length]
  rwa [head_tail] at h
theorem read_i32 (op a : Int) (t : List UInt8) : I32 (readO op a t).1.imm := by
  unfold readO I32
  split
  · dsimp only
    omega
  · dsimp only
    unfold wrap32
    omega
end Go.Proofs.YtlfnddmncbkjaacDoor.Fb
