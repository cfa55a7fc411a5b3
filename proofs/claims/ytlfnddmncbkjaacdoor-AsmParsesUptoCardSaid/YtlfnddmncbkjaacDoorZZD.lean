/- A guess at whatever Op, walked. -/
import Derived.Test.YtlfnddmncbkjaacDoorZWAsm12
import Derived.Test.YtlfnddmncbkjaacDoorZMB
namespace Go.Proofs.YtlfnddmncbkjaacDoor.Fb
set_option linter.unusedVariables false
set_option linter.unusedSimpArgs false
theorem mapM_mem {α β : Type} {f : α → Option β} : ∀ {l : List α} {r : List β}, l.mapM f = some r → ∀ z ∈ r, ∃ b ∈ l, f b = some z
  | [], r, h, z, hz => by
    simp at h
    subst h
    cases hz
  | x :: l, r, h, z, hz => by
    rw [List.mapM_cons] at h
    obtain ⟨y, hy, h⟩ := Option.bind_eq_some_iff.1 h
    obtain ⟨ys, hys, h⟩ := Option.bind_eq_some_iff.1 h
    cases h
    rcases List.mem_cons.1 hz with rfl | hz
    · exact ⟨x, List.mem_cons_self .., hy⟩
    · obtain ⟨b, hb, e⟩ := mapM_mem hys z hz
      exact ⟨b, List.mem_cons_of_mem _ hb, e⟩
theorem p32_in {b : ByteArray} {z : Int} (h : p32 b = some z) : -2147483648 ≤ z ∧ z ≤ 2147483647 := by
  unfold p32 at h
  split at h
  · rename_i v hv
    cases h
    unfold Lib.parseIntB at hv
    split at hv
    · cases hv
    · dsimp only at hv
      split at hv
      · cases hv
      · cases hv
      · split at hv
        · cases hv
        · split at hv
          · cases hv
          · rename_i h1 h2
            injection hv with hv
            subst hv
            split <;> omega
  · cases h
theorem nums_in (l : List UInt8) : ∀ z ∈ numsF l, -2147483648 ≤ z ∧ z ≤ 2147483647 := by
  intro z hz
  unfold numsF at hz
  cases h : (wordsF l).mapM p32 with
  | none => rw [h] at hz; cases hz
  | some r =>
    rw [h] at hz
    obtain ⟨b, _, e⟩ := mapM_mem h z hz
    exact p32_in e
theorem nums_len (l : List UInt8) : (numsF l).length ≤ (wordsF l).length := by
  unfold numsF
  cases h : (wordsF l).mapM p32 with
  | none => simp
  | some r => exact Nat.le_of_eq (Lib.mapM_length h)
end Go.Proofs.YtlfnddmncbkjaacDoor.Fb
namespace Go.Proofs.YtlfnddmncbkjaacDoor.W
set_option linter.unusedVariables false
set_option linter.unusedSimpArgs false
open Go.RowKit Fb
theorem guess_any (op atom : Int) (l : List UInt8) (hl : l.length ≤ 4294967296) (hn : (wordsF l).length ≤ 4294967296) (hop : 1 ≤ op ∧ op ≤ 59) (w : World) (HS : Hid (ErrAt w.heap.size w "strconv.ErrSyntax")) (HR : Hid (ErrAt w.heap.size w "strconv.ErrRange")) :
    Calls Tryd.prog 20 #[.int .i64 op, .int .i32 atom, .string (bs l)] w fun e w' => e = .returned (.tuple #[.agg (icells (guessS op atom (numsF l)).1), .bool (guessS op atom (numsF l)).2]) ∧ Below w.heap.size w w' := by
  have HN := Lib.hid (fun W (hW : Below w.heap.size w W) => numbers_any l hl hn W (Lib.hid (HS.out.on hW hW.size)) (Lib.hid (HR.out.on hW hW.size)))
  have HZ := Lib.hid (nums_in l)
  have HL : Hid ((numsF l).length ≤ 4294967296) := Lib.hid (Nat.le_trans (nums_len l) hn)
  rcases (by omega : (1 ≤ op ∧ op ≤ 2) ∨ op = 3 ∨ op = 4 ∨ (5 ≤ op ∧ op ≤ 10) ∨ (11 ≤ op ∧ op ≤ 15) ∨ (16 ≤ op ∧ op ≤ 18) ∨ (19 ≤ op ∧ op ≤ 27) ∨ (28 ≤ op ∧ op ≤ 45) ∨ op = 46 ∨ (47 ≤ op ∧ op ≤ 56) ∨ op = 57 ∨ (58 ≤ op ∧ op ≤ 59)) with h | h | h | h | h | h | h | h | h | h | h | h
  · exact guess_u op atom l _ HL HZ (by omega) (by omega) w HN
  · exact guess_j op atom l _ HL HZ (by omega) (by omega) w HN
  · exact guess_i1 op atom l _ HL HZ (by omega) (by omega) w HN
  · exact guess_b op atom l _ HL HZ (by omega) (by omega) w HN
  · exact guess_l op atom l _ HL HZ (by omega) (by omega) w HN
  · exact guess_s op atom l _ HL HZ (by omega) (by omega) w HN
  · exact guess_i2 op atom l _ HL HZ (by omega) (by omega) w HN
  · exact guess_r op atom l _ HL HZ (by omega) (by omega) w HN
  · exact guess_lr op atom l _ HL HZ (by omega) (by omega) w HN
  · exact guess_at op atom l _ HL HZ (by omega) (by omega) w HN
  · exact guess_i3 op atom l _ HL HZ (by omega) (by omega) w HN
  · exact guess_n op atom l _ HL HZ (by omega) (by omega) w HN
end Go.Proofs.YtlfnddmncbkjaacDoor.W

/- The numbers of an instruction's text: plain. -/
namespace Go.Proofs.YtlfnddmncbkjaacDoor.Fb
set_option linter.unusedVariables false
set_option linter.unusedSimpArgs false
open Go.Lib
theorem words_ascii (l : List UInt8) (ha : ∀ c ∈ l, c.toNat < 128) : wordsF l = (fieldsL [] l).map bs := by
  have h := spans_ascii l ha (bs l).size 0 none [] (by rw [bs_size]; omega) (by omega) (by simp)
  simpa [wordsF, goFieldsP, spansOfP] using h
theorem fields_word : ∀ (w cur r : List UInt8), (∀ c ∈ w, isSepN c.toNat = false) → fieldsL cur (w ++ r) = fieldsL (cur ++ w) r
  | [], cur, r, _ => by simp
  | c :: w, cur, r, h => by
    rw [List.cons_append]
    conv => lhs; unfold fieldsL
    rw [if_neg (by rw [h c (List.mem_cons_self ..)]; simp), fields_word w (cur ++ [c]) r (fun y hy => h y (List.mem_cons_of_mem _ hy))]
    simp
theorem fields_sep {c : UInt8} (h : isSepN c.toNat = true) (cur r : List UInt8) (hc : cur ≠ []) : fieldsL cur (c :: r) = cur :: fieldsL [] r := by
  conv => lhs; unfold fieldsL
  rw [if_pos h, if_neg hc]
theorem fields_sep0 {c : UInt8} (h : isSepN c.toNat = true) (r : List UInt8) : fieldsL [] (c :: r) = fieldsL [] r := by
  conv => lhs; unfold fieldsL
  rw [if_pos h, if_pos rfl]
theorem p32_itoa (n : Int) (h : -2147483648 ≤ n ∧ n ≤ 2147483647) : p32 (bs (itoa n)) = some n := by
  unfold p32
  rw [show (bs (itoa n)).data.toList = itoa n by simp [bs], parse32_itoa n h]
theorem mapM_itoa : ∀ ns : List Int, (∀ n ∈ ns, -2147483648 ≤ n ∧ n ≤ 2147483647) → ((ns.map itoa).map bs).mapM p32 = some ns
  | [], _ => rfl
  | n :: ns, h => by
    rw [List.map_cons, List.map_cons, List.mapM_cons, p32_itoa n (h n (List.mem_cons_self ..)), mapM_itoa ns (fun y hy => h y (List.mem_cons_of_mem _ hy))]
    rfl
theorem nums_of (l : List UInt8) (ns : List Int) (ha : ∀ c ∈ l, c.toNat < 128) (hf : fieldsL [] l = ns.map itoa) (hr : ∀ n ∈ ns, -2147483648 ≤ n ∧ n ≤ 2147483647) : numsF l = ns := by
  unfold numsF
  rw [words_ascii l ha, hf, mapM_itoa ns hr]
  rfl
theorem digits_in (u : Nat) : ∀ c ∈ decDigits u, 48 ≤ c.toNat ∧ c.toNat ≤ 57 := by
  induction u using Nat.strongRecOn with
  | _ u ih =>
    intro c hc
    unfold decDigits at hc
    split at hc
    · rcases List.mem_singleton.1 hc with rfl
      simp; omega
    · rcases List.mem_append.1 hc with h | h
      · exact ih (u / 10) (by omega) c h
      · rcases List.mem_singleton.1 h with rfl
        simp; omega
theorem itoa_in (n : Int) : ∀ c ∈ itoa n, c.toNat = 45 ∨ (48 ≤ c.toNat ∧ c.toNat ≤ 57) := by
  intro c hc
  unfold itoa at hc
  split at hc
  · rcases List.mem_cons.1 hc with rfl | h
    · exact Or.inl rfl
    · exact Or.inr (digits_in _ c h)
  · exact Or.inr (digits_in _ c hc)
theorem itoa_word (n : Int) : ∀ c ∈ itoa n, isSepN c.toNat = false := by
  intro c hc
  have := itoa_in n c hc
  unfold isSepN
  simp
  omega
theorem itoa_ne (n : Int) : itoa n ≠ [] := by
  unfold itoa
  split
  · simp
  · exact digits_ne _
theorem fields_num (n : Int) {c : UInt8} (h : isSepN c.toNat = true) (r : List UInt8) : fieldsL [] (itoa n ++ c :: r) = itoa n :: fieldsL [] r := by
  rw [fields_word _ _ _ (itoa_word n), List.nil_append, fields_sep h _ _ (itoa_ne n)]
theorem fields_num_end (n : Int) : fieldsL [] (itoa n) = [itoa n] := by
  have := fields_word (itoa n) [] [] (itoa_word n)
  rw [List.append_nil, List.nil_append] at this
  rw [this]
  unfold fieldsL
  rw [if_neg (itoa_ne n)]
/-- registers and constants, parted -/
theorem fields_reg (n : Int) {c : UInt8} (h : isSepN c.toNat = true) (r : List UInt8) : fieldsL [] (regS n ++ c :: r) = itoa n :: fieldsL [] r := by
  unfold regS
  rw [List.cons_append, fields_sep0 (by decide), fields_num n h]
theorem fields_reg_end (n : Int) : fieldsL [] (regS n) = [itoa n] := by
  unfold regS
  rw [fields_sep0 (by decide), fields_num_end]
theorem fields_close : fieldsL [] [41] = [] := by decide
end Go.Proofs.YtlfnddmncbkjaacDoor.Fb

/- A text's head is the name: plain. -/
namespace Go.Proofs.YtlfnddmncbkjaacDoor.Fb
set_option linter.unusedVariables false
set_option linter.unusedSimpArgs false
theorem head_rest : ∀ (a r : List UInt8), (∀ c ∈ a, c ≠ 32) → headL (a ++ 32 :: r) = a ∧ restL (a ++ 32 :: r) = r
  | [], r, _ => by simp [headL, restL]
  | c :: a, r, h => by
    have hc := h c (List.mem_cons_self ..)
    obtain ⟨h1, h2⟩ := head_rest a r (fun y hy => h y (List.mem_cons_of_mem _ hy))
    unfold headL at h1 ⊢
    unfold restL at h2 ⊢
    rw [List.cons_append, List.takeWhile_cons_of_pos (by simpa using hc), List.dropWhile_cons_of_pos (by simpa using hc), h1, h2]
    exact ⟨rfl, rfl⟩
theorem head_all : ∀ a : List UInt8, (∀ c ∈ a, c ≠ 32) → headL a = a ∧ restL a = []
  | [], _ => by simp [headL, restL]
  | c :: a, h => by
    have hc := h c (List.mem_cons_self ..)
    obtain ⟨h1, h2⟩ := head_all a (fun y hy => h y (List.mem_cons_of_mem _ hy))
    unfold headL at h1 ⊢
    unfold restL at h2 ⊢
    rw [List.takeWhile_cons_of_pos (by simpa using hc), List.dropWhile_cons_of_pos (by simpa using hc), h1, h2]
    exact ⟨rfl, rfl⟩
theorem full_plain : ∀ k, k < 59 → ∀ c ∈ fullL.getD k [], c ≠ 32 ∧ c.toNat < 128 := by decide
theorem sfx_plain (imm : Int) : ∀ c ∈ sfx imm, c ≠ 32 ∧ c.toNat < 128 := by
  unfold sfx
  (repeat' split) <;> decide
theorem name_plain (op imm : Int) (h : 1 ≤ op ∧ op ≤ 59) : ∀ c ∈ nameS op imm, c ≠ 32 ∧ c.toNat < 128 := by
  intro c hc
  unfold nameS at hc
  rcases List.mem_append.1 hc with hc | hc
  · exact full_plain _ (by omega) c hc
  · split at hc
    · exact sfx_plain imm c hc
    · cases hc
theorem text_head (i : InsD) (h : 1 ≤ i.op ∧ i.op ≤ 59) : headL (textS i) = nameS i.op i.imm := by
  unfold textS
  split
  · exact (head_all _ (fun c hc => (name_plain _ _ h c hc).1)).1
  · exact (head_rest _ _ (fun c hc => (name_plain _ _ h c hc).1)).1
theorem text_rest (i : InsD) (h : 1 ≤ i.op ∧ i.op ≤ 59) : restL (textS i) = if partsS i = [] then [] else Lib.join (partsS i) [44] := by
  unfold textS
  split
  · exact (head_all _ (fun c hc => (name_plain _ _ h c hc).1)).2
  · exact (head_rest _ _ (fun c hc => (name_plain _ _ h c hc).1)).2
end Go.Proofs.YtlfnddmncbkjaacDoor.Fb

/- The numbers that an instruction's text tells: plain. -/
namespace Go.Proofs.YtlfnddmncbkjaacDoor.Fb
set_option linter.unusedVariables false
set_option linter.unusedSimpArgs false
open Go.Lib
def zsOf (i : InsD) : List Int :=
  if i.op ≤ 2 then [i.rd, i.imm / 4096]
  else if i.op = 3 then [i.rd, i.imm]
  else if i.op = 4 ∨ (19 ≤ i.op ∧ i.op ≤ 27) ∨ i.op = 57 then [i.rd, i.rs1, i.imm]
  else if i.op ≤ 10 then [i.rs1, i.rs2, i.imm]
  else if i.op ≤ 15 then [i.rd, i.imm, i.rs1]
  else if i.op ≤ 18 then [i.rs2, i.imm, i.rs1]
  else if i.op ≤ 45 then [i.rd, i.rs1, i.rs2]
  else if i.op = 46 then [i.rd, i.rs1]
  else if i.op ≤ 56 then [i.rd, i.rs2, i.rs1]
  else []
theorem fields_at (n m : Int) : fieldsL [] (atS n (itoa m)) = [itoa m, itoa n] := by
  unfold atS
  rw [fields_num m (by decide), fields_reg n (by decide)]
  rfl
theorem fields_at0 (n : Int) : fieldsL [] (atS n []) = [itoa n] := by
  unfold atS
  rw [List.nil_append, fields_sep0 (by decide), fields_reg n (by decide)]
  rfl
theorem join2 (a b : List UInt8) : join [a, b] [44] = a ++ 44 :: b := by simp [join]
theorem join3 (a b c : List UInt8) : join [a, b, c] [44] = a ++ 44 :: (b ++ 44 :: c) := by simp [join]
theorem rest_fields (i : InsD) (h : 1 ≤ i.op ∧ i.op ≤ 59) : fieldsL [] (restL (textS i)) = (zsOf i).map itoa := by
  rw [text_rest i h]
  unfold partsS zsOf
  by_cases h1 : i.op ≤ 2
  · simp only [h1, if_true, List.cons_ne_nil, if_false, reduceCtorEq]; rw [join2, fields_reg _ (by decide), fields_num_end]; rfl
  by_cases h2 : i.op = 3
  · (repeat rw [if_neg h1]); (repeat rw [if_pos h2]); rw [if_neg (by simp)]; rw [join2, fields_reg _ (by decide), fields_num_end]; rfl
  by_cases h3 : i.op = 4 ∨ (19 ≤ i.op ∧ i.op ≤ 27) ∨ i.op = 57
  · simp only [h1, h2, h3, if_true, if_false, reduceCtorEq]; rw [join3, fields_reg _ (by decide), fields_reg _ (by decide), fields_num_end]; rfl
  by_cases h4 : i.op ≤ 10
  · simp only [h1, h2, h3, h4, if_true, if_false, reduceCtorEq]; rw [join3, fields_reg _ (by decide), fields_reg _ (by decide), fields_num_end]; rfl
  by_cases h5 : i.op ≤ 15
  · simp only [h1, h2, h3, h4, h5, if_true, if_false, reduceCtorEq]; rw [join2, fields_reg _ (by decide), fields_at]; rfl
  by_cases h6 : i.op ≤ 18
  · simp only [h1, h2, h3, h4, h5, h6, if_true, if_false, reduceCtorEq]; rw [join2, fields_reg _ (by decide), fields_at]; rfl
  by_cases h7 : i.op ≤ 45
  · simp only [h1, h2, h3, h4, h5, h6, h7, if_true, if_false, reduceCtorEq]; rw [join3, fields_reg _ (by decide), fields_reg _ (by decide), fields_reg_end]; rfl
  by_cases h8 : i.op = 46
  · (repeat (first | rw [if_neg h1] | rw [if_neg h2] | rw [if_neg h3] | rw [if_neg h4] | rw [if_neg h5] | rw [if_neg h6] | rw [if_neg h7])); (repeat rw [if_pos h8]); rw [if_neg (by simp)]; rw [join2, fields_reg _ (by decide), fields_at0]; rfl
  by_cases h9 : i.op ≤ 56
  · simp only [h1, h2, h3, h4, h5, h6, h7, h8, h9, if_true, if_false, reduceCtorEq]; rw [join3, fields_reg _ (by decide), fields_reg _ (by decide), fields_at0]; rfl
  · simp only [h1, h2, h3, h4, h5, h6, h7, h8, h9, if_true, if_false]; rfl
end Go.Proofs.YtlfnddmncbkjaacDoor.Fb
