/- An instruction's text is read as it; texts differ: plain. -/
import Derived.Test.YtlfnddmncbkjaacDoorZZD
import Derived.Test.YtlfnddmncbkjaacDoorZWAsm7
namespace Go.Proofs.YtlfnddmncbkjaacDoor.Fb
set_option linter.unusedVariables false
set_option linter.unusedSimpArgs false
open Go.Lib Go.RowKit
theorem base_inj : ∀ k, k < 59 → ∀ k', k' < 59 → baseL.getD k [] = baseL.getD k' [] → k = k' := by decide +kernel
theorem base_dot : ∀ k, k < 59 → ∀ c ∈ baseL.getD k [], (c != 46) = true := by decide +kernel
def atomOf (i : InsD) : Int := if 46 ≤ i.op ∧ i.op ≤ 56 then i.imm else 0
theorem name_base {op imm : Int} (h : 1 ≤ op ∧ op ≤ 59) : (nameS op imm).takeWhile (· != 46) = baseL.getD (op - 1).toNat [] := by
  unfold nameS
  rw [full_base' h, List.append_assoc, List.takeWhile_append_of_pos (base_dot _ (by omega))]
  by_cases c : 46 ≤ op ∧ op ≤ 56
  · rw [if_pos c]
    simp
  · rw [if_neg c, if_neg c]
    simp
theorem sfx_inj {a b : Int} (ha : 0 ≤ a ∧ a ≤ 3) (hb : 0 ≤ b ∧ b ≤ 3) (h : sfx a = sfx b) : a = b := by
  have h1 : a = 0 ∨ a = 1 ∨ a = 2 ∨ a = 3 := by omega
  have h2 : b = 0 ∨ b = 1 ∨ b = 2 ∨ b = 3 := by omega
  rcases h1 with rfl | rfl | rfl | rfl <;> rcases h2 with rfl | rfl | rfl | rfl <;> first | rfl | (exact absurd h (by decide))
theorem name_inj {op op' a a' : Int} (h : 1 ≤ op ∧ op ≤ 59) (h' : 1 ≤ op' ∧ op' ≤ 59) (e : nameS op a = nameS op' a') : op = op' ∧ (46 ≤ op ∧ op ≤ 56 → 0 ≤ a ∧ a ≤ 3 → 0 ≤ a' ∧ a' ≤ 3 → a = a') := by
  have h1 := congrArg (fun l => l.takeWhile (· != 46)) e
  rw [name_base h, name_base h'] at h1
  have h2 := base_inj _ (by omega) _ (by omega) h1
  have h3 : op = op' := by omega
  subst h3
  refine ⟨rfl, fun c ha hb => sfx_inj ha hb ?_⟩
  unfold nameS at e
  rw [if_pos c, if_pos c] at e
  exact List.append_cancel_left e
def Asc (l : List UInt8) : Prop := ∀ c ∈ l, c.toNat < 128
theorem asc_nil : Asc [] := fun c hc => by cases hc
theorem asc_cons {c : UInt8} {l : List UInt8} (hc : c.toNat < 128) (h : Asc l) : Asc (c :: l) := fun d hd => by
  rcases List.mem_cons.1 hd with rfl | hd
  · exact hc
  · exact h d hd
theorem asc_app {a b : List UInt8} (ha : Asc a) (hb : Asc b) : Asc (a ++ b) := fun d hd => by
  rcases List.mem_append.1 hd with hd | hd
  · exact ha d hd
  · exact hb d hd
theorem asc_itoa (n : Int) : Asc (itoa n) := fun c hc => by
  have := itoa_in n c hc
  omega
theorem asc_reg (n : Int) : Asc (regS n) := asc_cons (by decide) (asc_itoa n)
theorem asc_at (n : Int) {a : List UInt8} (ha : Asc a) : Asc (atS n a) := asc_app ha (asc_cons (by decide) (asc_app (asc_reg n) (asc_cons (by decide) asc_nil)))
theorem rest_asc (i : InsD) (h : 1 ≤ i.op ∧ i.op ≤ 59) : Asc (restL (textS i)) := by
  rw [text_rest i h]
  split
  · exact asc_nil
  · unfold partsS
    (repeat' split) <;> first
      | exact asc_nil
      | (rw [join2]; exact asc_app (asc_reg _) (asc_cons (by decide) (asc_itoa _)))
      | (rw [join2]; exact asc_app (asc_reg _) (asc_cons (by decide) (asc_at _ (asc_itoa _))))
      | (rw [join2]; exact asc_app (asc_reg _) (asc_cons (by decide) (asc_at _ asc_nil)))
      | (rw [join3]; exact asc_app (asc_reg _) (asc_cons (by decide) (asc_app (asc_reg _) (asc_cons (by decide) (asc_itoa _)))))
      | (rw [join3]; exact asc_app (asc_reg _) (asc_cons (by decide) (asc_app (asc_reg _) (asc_cons (by decide) (asc_reg _)))))
      | (rw [join3]; exact asc_app (asc_reg _) (asc_cons (by decide) (asc_app (asc_reg _) (asc_cons (by decide) (asc_at _ asc_nil)))))
theorem zs_in (i : InsD) (h : isS i = true) (wf : I32 i.imm) : ∀ n ∈ zsOf i, -2147483648 ≤ n ∧ n ≤ 2147483647 := by
  obtain ⟨h1, h2, h3, h4⟩ := isS_regs h
  obtain ⟨w1, w2⟩ := wf
  intro n hn
  unfold zsOf at hn
  (repeat' split at hn) <;> simp only [List.mem_cons, List.not_mem_nil, or_false] at hn <;> omega
theorem text_num (i : InsD) (h : isS i = true) (wf : I32 i.imm) : numsF (restL (textS i)) = zsOf i :=
  nums_of _ _ (rest_asc i (isS_regs h).1) (rest_fields i (isS_regs h).1) (zs_in i h wf)
theorem wrap32_up (n : Int) (wf : I32 n) (h : n % 4096 = 0) : wrap32 (n / 4096 * 4096) = n := by
  obtain ⟨w1, w2⟩ := wf
  unfold wrap32
  omega
theorem guess_text (i : InsD) (h : isS i = true) (wf : I32 i.imm) : guessS i.op (atomOf i) (zsOf i) = (i, true) := by
  obtain ⟨op, rd, rs1, rs2, imm⟩ := i
  have hop : 1 ≤ op ∧ op ≤ 59 := (isS_regs h).1
  have hw := wrap32_up imm wf
  have hc : op = 1 ∨ op = 2 ∨ op = 3 ∨ op = 4 ∨ op = 5 ∨ op = 6 ∨ op = 7 ∨ op = 8 ∨ op = 9 ∨ op = 10 ∨ op = 11 ∨ op = 12 ∨ op = 13 ∨ op = 14 ∨ op = 15 ∨ op = 16 ∨ op = 17 ∨ op = 18 ∨ op = 19 ∨ op = 20 ∨ op = 21 ∨ op = 22 ∨ op = 23 ∨ op = 24 ∨ op = 25 ∨ op = 26 ∨ op = 27 ∨ op = 28 ∨ op = 29 ∨ op = 30 ∨ op = 31 ∨ op = 32 ∨ op = 33 ∨ op = 34 ∨ op = 35 ∨ op = 36 ∨ op = 37 ∨ op = 38 ∨ op = 39 ∨ op = 40 ∨ op = 41 ∨ op = 42 ∨ op = 43 ∨ op = 44 ∨ op = 45 ∨ op = 46 ∨ op = 47 ∨ op = 48 ∨ op = 49 ∨ op = 50 ∨ op = 51 ∨ op = 52 ∨ op = 53 ∨ op = 54 ∨ op = 55 ∨ op = 56 ∨ op = 57 ∨ op = 58 ∨ op = 59 := by omega
  (repeat' rcases hc with rfl | hc)
  all_goals (try subst hc)
  all_goals simp [isS] at h
  all_goals simp [guessS, manyS, offsS, numS, zsOf, fillS, setF, immG, bareS, atomOf]
  all_goals (first | done | omega | (simp [h, hw]; done) | (refine ⟨?_, ?_⟩ <;> first | omega | exact hw (by omega)) | skip)
theorem text_inj {i j : InsD} (hi : isS i = true) (wi : I32 i.imm) (hj : isS j = true) (wj : I32 j.imm) (e : textS i = textS j) : i = j := by
  have h1 := text_head i (isS_regs hi).1
  have h2 := text_head j (isS_regs hj).1
  rw [e, h2] at h1
  obtain ⟨h3, h4⟩ := name_inj (isS_regs hj).1 (isS_regs hi).1 h1
  have h5 : atomOf j = atomOf i := by
    unfold atomOf
    rw [h3]
    split
    · rename_i c
      exact h4 (by omega) (W.isS_atom hj (by omega)) (W.isS_atom hi (by omega))
    · rfl
  have h6 := text_num i hi wi
  have h7 := text_num j hj wj
  rw [e, h7] at h6
  have h8 := guess_text i hi wi
  have h9 := guess_text j hj wj
  rw [h3, h5, h6, h8] at h9
  exact congrArg Prod.fst h9
theorem spans_len (p : Nat → Bool) (s : ByteArray) : ∀ (f pos : Nat) (st : Option Nat) (acc : List (Nat × Nat)), (closeSpans s (spansFromP p s f pos st acc)).length ≤ acc.length + f + (if st.isSome then 1 else 0)
  | 0, pos, st, acc => by
    unfold spansFromP closeSpans
    cases st <;> simp
  | f + 1, pos, st, acc => by
    unfold spansFromP
    split
    · split
      · cases st with
        | none =>
          have := spans_len p s f (pos + (Utf8.decode s pos).2) none acc
          simp at this ⊢
          omega
        | some a =>
          have := spans_len p s f (pos + (Utf8.decode s pos).2) none (acc ++ [(a, pos)])
          simp at this ⊢
          omega
      · cases st with
        | none =>
          have := spans_len p s f (pos + (Utf8.decode s pos).2) (some pos) acc
          simp at this ⊢
          omega
        | some a =>
          have := spans_len p s f (pos + (Utf8.decode s pos).2) (some a) acc
          simp at this ⊢
          omega
    · unfold closeSpans
      cases st <;> simp <;> omega
theorem words_len (l : List UInt8) : (wordsF l).length ≤ l.length := by
  unfold wordsF goFieldsP spansOfP
  rw [List.length_map]
  have := spans_len isSepN (bs l) (bs l).size 0 none []
  rw [bs_size] at this ⊢
  simpa using this
end Go.Proofs.YtlfnddmncbkjaacDoor.Fb

/- What the reader of texts tries, and what it tells: plain. -/
namespace Go.Proofs.YtlfnddmncbkjaacDoor.Fb
set_option linter.unusedVariables false
set_option linter.unusedSimpArgs false
open Go.Lib Go.RowKit
/-- one try: the instruction, if its text is the text -/
def Hits (l : List UInt8) (op a : Int) : Prop := nameS op a = headL l ∧ (guessS op a (numsF (restL l))).2 = true ∧ isS (guessS op a (numsF (restL l))).1 = true ∧ textS (guessS op a (numsF (restL l))).1 = l
/-- what the reader tells -/
def ParsedAs (l : List UInt8) (i : InsD) (c : Int) : Prop := (isS i = true ∧ I32 i.imm ∧ textS i = l ∧ c = 0) ∨ ((∀ j, isS j = true → I32 j.imm → textS j ≠ l) ∧ i = ⟨0, 0, 0, 0, 0⟩ ∧ c = 2)
/-- none of the Ops below has hit; none of this Op's atoms below -/
def NoneTo (l : List UInt8) (n : Int) : Prop := ∀ op a, 1 ≤ op → op < n → 0 ≤ a → a ≤ 3 → ¬ Hits l op a
def NoneAt (l : List UInt8) (op n : Int) : Prop := ∀ a, 0 ≤ a → a < n → ¬ Hits l op a
theorem none_one (l : List UInt8) : NoneTo l 1 := fun _ _ h1 h2 => by omega
theorem none_zero (l : List UInt8) (op : Int) : NoneAt l op 0 := fun _ h1 h2 => by omega
theorem NoneAt.next {l : List UInt8} {op n : Int} (h : NoneAt l op n) (hn : ¬ Hits l op n) : NoneAt l op (n + 1) := fun a h1 h2 => by
  by_cases e : a = n
  · subst e; exact hn
  · exact h a h1 (by omega)
theorem NoneTo.next {l : List UInt8} {n : Int} (h : NoneTo l n) (hn : NoneAt l n 4) : NoneTo l (n + 1) := fun op a h1 h2 h3 h4 => by
  by_cases e : op = n
  · subst e; exact hn a h3 (by omega)
  · exact h op a h1 (by omega) h3 h4
theorem hits_text {i : InsD} (h : isS i = true) (wf : I32 i.imm) : Hits (textS i) i.op (atomOf i) ∧ 0 ≤ atomOf i ∧ atomOf i ≤ 3 := by
  have hr := isS_regs h
  have ha := W.isS_atom h
  refine ⟨?_, ?_⟩
  · unfold Hits
    rw [text_num i h wf, guess_text i h wf, text_head i hr.1]
    refine ⟨?_, rfl, h, rfl⟩
    unfold nameS atomOf
    split <;> rfl
  · unfold atomOf
    split
    · exact ha (by omega)
    · omega
theorem none_all {l : List UInt8} (h : NoneTo l 60) : ∀ j, isS j = true → I32 j.imm → textS j ≠ l := by
  rintro j hj wf rfl
  obtain ⟨h1, h2, h3⟩ := hits_text hj wf
  have hr := (isS_regs hj).1
  exact h j.op (atomOf j) hr.1 (by omega) h2 h3 h1
theorem parsed_none {l : List UInt8} (h : NoneTo l 60) : ParsedAs l ⟨0, 0, 0, 0, 0⟩ 2 := Or.inr ⟨none_all h, rfl, rfl⟩
theorem fill_imm (op num : Int) : ∀ (zs : List Int) (offs : List Nat) (k : Nat) (i : InsD), (∀ z ∈ zs, -2147483648 ≤ z ∧ z ≤ 2147483647) → I32 i.imm → I32 (fillS op num offs k zs i).imm
  | [], offs, k, i, _, hi => by
    unfold fillS
    exact hi
  | n :: zs, offs, k, i, hz, hi => by
    have hzs : ∀ z ∈ zs, -2147483648 ≤ z ∧ z ≤ 2147483647 := fun z h => hz z (List.mem_cons_of_mem _ h)
    have hn := hz n (List.mem_cons_self ..)
    unfold fillS
    split
    · refine fill_imm op num zs offs (k + 1) _ hzs ?_
      unfold immG I32
      dsimp only
      split
      · unfold wrap32; omega
      · exact hn
    · cases offs with
      | nil => exact hi
      | cons o offs =>
        refine fill_imm op num zs offs (k + 1) _ hzs ?_
        unfold setF
        (repeat' split) <;> exact hi
theorem guess_i32 (op a : Int) (l : List UInt8) (ha : 0 ≤ a ∧ a ≤ 3) : I32 (guessS op a (numsF l)).1.imm := by
  have hb : I32 (bareS op a).imm := by
    unfold bareS I32
    dsimp only
    split <;> omega
  unfold guessS
  split
  · exact fill_imm op _ _ _ _ _ (nums_in l) hb
  · exact hb
theorem parsed_hit {l : List UInt8} {op a : Int} (ha : 0 ≤ a ∧ a ≤ 3) (h : Hits l op a) : ParsedAs l (guessS op a (numsF (restL l))).1 0 := Or.inl ⟨h.2.2.1, guess_i32 op a _ ha, h.2.2.2, rfl⟩
/-- what is told is one -/
theorem ParsedAs.one {l : List UInt8} {i j : InsD} {c d : Int} (h : ParsedAs l i c) (k : ParsedAs l j d) : i = j ∧ c = d := by
  rcases h with ⟨a1, a2, a3, rfl⟩ | ⟨a1, rfl, rfl⟩ <;> rcases k with ⟨b1, b2, b3, rfl⟩ | ⟨b1, rfl, rfl⟩
  · exact ⟨text_inj a1 a2 b1 b2 (a3.trans b3.symm), rfl⟩
  · exact absurd a3 (b1 i a1 a2)
  · exact absurd b3 (a1 j b1 b2)
  · exact ⟨rfl, rfl⟩
theorem parsed_text {i : InsD} (h : isS i = true) (wf : I32 i.imm) : ParsedAs (textS i) i 0 := Or.inl ⟨h, wf, rfl, rfl⟩
theorem full_ne : ∀ k, k < 59 → fullL.getD k [] ≠ [] := by decide
theorem text_ne {i : InsD} (h : 1 ≤ i.op ∧ i.op ≤ 59) : textS i ≠ [] := by
  have hn : nameS i.op i.imm ≠ [] := by
    unfold nameS
    intro e
    exact full_ne _ (by omega) (List.append_eq_nil_iff.1 e).1
  unfold textS
  split
  · exact hn
  · intro e
    exact hn (List.append_eq_nil_iff.1 e).1
theorem parsed_empty : ParsedAs [] ⟨0, 0, 0, 0, 0⟩ 2 := Or.inr ⟨fun j hj _ => text_ne (isS_regs hj).1, rfl, rfl⟩
end Go.Proofs.YtlfnddmncbkjaacDoor.Fb
