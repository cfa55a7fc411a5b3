/- The document's reader, walked: what follows a name. -/
import Derived.Test.YtlfnddmncbkjaacDoorZZG
import Derived.Deep.RegionHeld
namespace Go.Proofs.YtlfnddmncbkjaacDoor.W
set_option linter.unusedVariables false
set_option linter.unusedSimpArgs false
open Go.RowKit Fb
theorem Rd.other {w : World} {b a o : Nat} {l : List UInt8} {st : Option (List UInt8)} (h : Rd w b l st) (v : Value) (hab : a ≠ b) : Rd (w.setCell ⟨a, o, none⟩ v) b l st := by
  obtain ⟨k, bad, hk, ⟨c0, c1, c2⟩, ⟨f0, f1, f2⟩, e⟩ := h
  have hne : b ≠ a := fun e => hab e.symm
  exact ⟨k, bad, hk, ⟨by go_cell, by go_cell, by go_cell⟩, ⟨by simpa using f0, by simpa using f1, by simpa using f2⟩, e⟩
theorem I5.set1 {w : World} {b : Nat} {op rd rs1 rs2 imm : Int} (h : I5 w b ⟨op, rd, rs1, rs2, imm⟩) (n : Int) : I5 (w.setCell ⟨b, 1, none⟩ (.int .i64 n)) b ⟨op, n, rs1, rs2, imm⟩ := by
  obtain ⟨⟨a0, a1, a2, a3, a4⟩, b0, b1, b2, b3, b4⟩ := h
  refine ⟨⟨by go_cell, by go_cell, by go_cell, by go_cell, by go_cell⟩, ?_, ?_, ?_, ?_, ?_⟩ <;> simpa using (by assumption)
theorem I5.set2 {w : World} {b : Nat} {op rd rs1 rs2 imm : Int} (h : I5 w b ⟨op, rd, rs1, rs2, imm⟩) (n : Int) : I5 (w.setCell ⟨b, 2, none⟩ (.int .i64 n)) b ⟨op, rd, n, rs2, imm⟩ := by
  obtain ⟨⟨a0, a1, a2, a3, a4⟩, b0, b1, b2, b3, b4⟩ := h
  refine ⟨⟨by go_cell, by go_cell, by go_cell, by go_cell, by go_cell⟩, ?_, ?_, ?_, ?_, ?_⟩ <;> simpa using (by assumption)
theorem I5.set3 {w : World} {b : Nat} {op rd rs1 rs2 imm : Int} (h : I5 w b ⟨op, rd, rs1, rs2, imm⟩) (n : Int) : I5 (w.setCell ⟨b, 3, none⟩ (.int .i64 n)) b ⟨op, rd, rs1, n, imm⟩ := by
  obtain ⟨⟨a0, a1, a2, a3, a4⟩, b0, b1, b2, b3, b4⟩ := h
  refine ⟨⟨by go_cell, by go_cell, by go_cell, by go_cell, by go_cell⟩, ?_, ?_, ?_, ?_, ?_⟩ <;> simpa using (by assumption)
theorem I5.set4 {w : World} {b : Nat} {op rd rs1 rs2 imm : Int} (h : I5 w b ⟨op, rd, rs1, rs2, imm⟩) (n : Int) : I5 (w.setCell ⟨b, 4, none⟩ (.int .i32 n)) b ⟨op, rd, rs1, rs2, n⟩ := by
  obtain ⟨⟨a0, a1, a2, a3, a4⟩, b0, b1, b2, b3, b4⟩ := h
  refine ⟨⟨by go_cell, by go_cell, by go_cell, by go_cell, by go_cell⟩, ?_, ?_, ?_, ?_, ?_⟩ <;> simpa using (by assumption)
theorem I5.drew {w : World} {b : Nat} {i : InsD} (h : I5 w b i) : I5 w.drew b i := by
  obtain ⟨⟨a0, a1, a2, a3, a4⟩, b0, b1, b2, b3, b4⟩ := h
  exact ⟨⟨by simpa using a0, by simpa using a1, by simpa using a2, by simpa using a3, by simpa using a4⟩, by simpa using b0, by simpa using b1, by simpa using b2, by simpa using b3, by simpa using b4⟩
theorem I5.other {w : World} {b a o : Nat} {i : InsD} (h : I5 w b i) (v : Value) (hab : a ≠ b) : I5 (w.setCell ⟨a, o, none⟩ v) b i := by
  obtain ⟨⟨a0, a1, a2, a3, a4⟩, b0, b1, b2, b3, b4⟩ := h
  have hne : b ≠ a := fun e => hab e.symm
  refine ⟨⟨by go_cell, by go_cell, by go_cell, by go_cell, by go_cell⟩, ?_, ?_, ?_, ?_, ?_⟩ <;> simpa using (by assumption)
/-- the reader's round: the result's box, the instruction's, the reader's -/
def RS (w W : World) (l : List UInt8) (A B : Nat) (i : InsD) (st : Option (List UInt8)) : Prop := I5 W w.heap.size ⟨0, 0, 0, 0, 0⟩ ∧ I5 W A i ∧ Rd W B l st ∧ Below w.heap.size w W ∧ w.heap.size < A ∧ A < B
theorem RS.rd {w W : World} {l : List UInt8} {A B : Nat} {i : InsD} {st : Option (List UInt8)} (h : RS w W l A B i st) : Rd W B l st := h.2.2.1
theorem RS.call {w W W' : World} {l : List UInt8} {A B : Nat} {i : InsD} {st st' : Option (List UInt8)} (h : RS w W l A B i st) (hr : Rd W' B l st') (hb : Below B W W') : RS w W' l A B i st' := by
  obtain ⟨h1, h2, h3, h4, h5, h6⟩ := h
  exact ⟨h1.below hb (by omega), h2.below hb h6, hr, h4.trans (hb.mono (by omega)), h5, h6⟩
theorem RS.set1 {w W : World} {l : List UInt8} {A B : Nat} {op rd rs1 rs2 imm : Int} {st : Option (List UInt8)} (h : RS w W l A B ⟨op, rd, rs1, rs2, imm⟩ st) (n : Int) : RS w (W.setCell ⟨A, 1, none⟩ (.int .i64 n)) l A B ⟨op, n, rs1, rs2, imm⟩ st := by
  obtain ⟨h1, h2, h3, h4, h5, h6⟩ := h
  exact ⟨h1.other _ (by omega), h2.set1 n, h3.other _ (by omega), h4.setCell (by show w.heap.size ≤ A; omega) _, h5, h6⟩
theorem RS.set2 {w W : World} {l : List UInt8} {A B : Nat} {op rd rs1 rs2 imm : Int} {st : Option (List UInt8)} (h : RS w W l A B ⟨op, rd, rs1, rs2, imm⟩ st) (n : Int) : RS w (W.setCell ⟨A, 2, none⟩ (.int .i64 n)) l A B ⟨op, rd, n, rs2, imm⟩ st := by
  obtain ⟨h1, h2, h3, h4, h5, h6⟩ := h
  exact ⟨h1.other _ (by omega), h2.set2 n, h3.other _ (by omega), h4.setCell (by show w.heap.size ≤ A; omega) _, h5, h6⟩
theorem RS.set3 {w W : World} {l : List UInt8} {A B : Nat} {op rd rs1 rs2 imm : Int} {st : Option (List UInt8)} (h : RS w W l A B ⟨op, rd, rs1, rs2, imm⟩ st) (n : Int) : RS w (W.setCell ⟨A, 3, none⟩ (.int .i64 n)) l A B ⟨op, rd, rs1, n, imm⟩ st := by
  obtain ⟨h1, h2, h3, h4, h5, h6⟩ := h
  exact ⟨h1.other _ (by omega), h2.set3 n, h3.other _ (by omega), h4.setCell (by show w.heap.size ≤ A; omega) _, h5, h6⟩
theorem RS.set4 {w W : World} {l : List UInt8} {A B : Nat} {op rd rs1 rs2 imm : Int} {st : Option (List UInt8)} (h : RS w W l A B ⟨op, rd, rs1, rs2, imm⟩ st) (n : Int) : RS w (W.setCell ⟨A, 4, none⟩ (.int .i32 n)) l A B ⟨op, rd, rs1, rs2, n⟩ st := by
  obtain ⟨h1, h2, h3, h4, h5, h6⟩ := h
  exact ⟨h1.other _ (by omega), h2.set4 n, h3.other _ (by omega), h4.setCell (by show w.heap.size ≤ A; omega) _, h5, h6⟩
theorem num_bound (st : Option (List UInt8)) : -10000000000 < (numO st).1 ∧ (numO st).1 < 10000000000 := by
  cases st with
  | none =>
    unfold numO
    exact ⟨by decide, by decide⟩
  | some r =>
    have h1 := valD_small (digs_in 10 r) (digs_le 10 r)
    have h2 := valD_small (digs_in 10 (r.drop 1)) (digs_le 10 (r.drop 1))
    unfold numO
    dsimp only
    by_cases hb : r.head? = some 45
    · simp only [hb, if_true]
      split
      · exact ⟨by decide, by decide⟩
      · (try dsimp only); omega
    · simp only [hb, if_false]
      split
      · exact ⟨by decide, by decide⟩
      · (try dsimp only); omega
set_option maxRecDepth 100000 in
set_option maxHeartbeats 3200000 in
theorem read_some (op a : Int) (l : List UInt8) (hop : 1 ≤ op ∧ op ≤ 57) (ha : 0 ≤ a ∧ a ≤ 3) (hl : l.length ≤ 4294967296) (w : World) :
    Calls Tryd.prog 21 #[.int .i64 op, .int .i32 a, .string (bs l)] w fun e w' => e = .returned (.tuple #[.agg (icells (readO op a l).1), .bool (readO op a l).2]) ∧ Below w.heap.size w w' := by
  have HE := Lib.hid (fun b W st (h : Rd W b l st) => (show Calls Tryd.prog 30 #[.pointer (some ⟨b, 0, none⟩), .string ⟨#[32]⟩] W (fun e w' => e = .returned (.tuple #[]) ∧ Rd w' b l (eatO st [32]) ∧ Below b W w') from eat_any b l [32] st hl (by decide) W h))
  have HC := Lib.hid (fun b W st (h : Rd W b l st) => (show Calls Tryd.prog 30 #[.pointer (some ⟨b, 0, none⟩), .string ⟨#[44]⟩] W (fun e w' => e = .returned (.tuple #[]) ∧ Rd w' b l (eatO st [44]) ∧ Below b W w') from eat_any b l [44] st hl (by decide) W h))
  have HN := Lib.hid (fun b W st (h : Rd W b l st) => number_any b l st hl W h)
  have HG := Lib.hid (fun b W st (h : Rd W b l st) => reg_any11 b l st hl W h)
  have HP := Lib.hid (fun b W st (h : Rd W b l st) => place_any11 b l st hl W h)
  have n58 : (op == 58) = false := by rw [beq_eq_false_iff_ne]; omega
  have n59 : (op == 59) = false := by rw [beq_eq_false_iff_ne]; omega
  have HLL := Lib.hid hl
  have HRD := Lib.hid (show readO op a l = (⟨op, (bodyAt op a l).1.1, (bodyAt op a l).1.2.1, (bodyAt op a l).1.2.2.1, wrap32 (upO op (bodyAt op a l).1.2.2.2)⟩, decide ((bodyAt op a l).2 = some [] ∧ wrap32 (upO op (bodyAt op a l).1.2.2.2) = upO op (bodyAt op a l).1.2.2.2)) by unfold readO; rw [if_neg (by omega)])
  generalize readO op a l = ro at *
  have HBA := Lib.hid (show bodyAt op a l = bodyO op a (regO (eatO (some l) [32])).1 (eatO (regO (eatO (some l) [32])).2 [44]) from rfl)
  generalize bodyAt op a l = ba at *
  obtain ⟨w1, hw1⟩ : ∃ w1, w1 = w.alloc (.cells #[.int .i64 0, .int .i64 0, .int .i64 0, .int .i64 0, .int .i32 0] 23) := ⟨_, rfl⟩
  obtain ⟨w2, hw2⟩ : ∃ w2, w2 = w1.alloc (.cells #[.int .i64 op, .int .i64 0, .int .i64 0, .int .i64 0, .int .i32 0] 23) := ⟨_, rfl⟩
  obtain ⟨w3, hw3⟩ : ∃ w3, w3 = w2.alloc (.cells #[.string (bs l), .int .i64 0, .bool false] 63) := ⟨_, rfl⟩
  have hs1 : w1.heap.size = w.heap.size + 1 := by rw [hw1]; simp
  have hs2 : w2.heap.size = w.heap.size + 2 := by rw [hw2]; simp [hs1]
  have hs3 : w3.heap.size = w.heap.size + 3 := by rw [hw3]; simp [hs2]
  have hb1 : Below w.heap.size w w1 := by rw [hw1]; exact (by repeat (first | with_reducible exact Below.refl _ _ | with_reducible refine below_drewN ?_ _ | ((with_reducible refine Below.setCell ?_ ?hq _); case hq => (first | (simp; done) | (simp; omega))) | ((with_reducible refine Below.alloc ?_ ?hq _); case hq => (first | (simp; done) | (simp; omega)))))
  have hb2 : Below w1.heap.size w1 w2 := by rw [hw2]; exact (by repeat (first | with_reducible exact Below.refl _ _ | with_reducible refine below_drewN ?_ _ | ((with_reducible refine Below.setCell ?_ ?hq _); case hq => (first | (simp; done) | (simp; omega))) | ((with_reducible refine Below.alloc ?_ ?hq _); case hq => (first | (simp; done) | (simp; omega)))))
  have hb3 : Below w2.heap.size w2 w3 := by rw [hw3]; exact (by repeat (first | with_reducible exact Below.refl _ _ | with_reducible refine below_drewN ?_ _ | ((with_reducible refine Below.setCell ?_ ?hq _); case hq => (first | (simp; done) | (simp; omega))) | ((with_reducible refine Below.alloc ?_ ?hq _); case hq => (first | (simp; done) | (simp; omega)))))
  have hi1 : I5 w1 w.heap.size ⟨0, 0, 0, 0, 0⟩ := by rw [hw1]; exact ⟨⟨by go_cell, by go_cell, by go_cell, by go_cell, by go_cell⟩, World.frozen?_alloc_new _ _ _ _, World.frozen?_alloc_new _ _ _ _, World.frozen?_alloc_new _ _ _ _, World.frozen?_alloc_new _ _ _ _, World.frozen?_alloc_new _ _ _ _⟩
  have hi2 : I5 w2 w1.heap.size ⟨op, 0, 0, 0, 0⟩ := by rw [hw2]; exact ⟨⟨by go_cell, by go_cell, by go_cell, by go_cell, by go_cell⟩, World.frozen?_alloc_new _ _ _ _, World.frozen?_alloc_new _ _ _ _, World.frozen?_alloc_new _ _ _ _, World.frozen?_alloc_new _ _ _ _, World.frozen?_alloc_new _ _ _ _⟩
  have hr3 : Rd w3 w2.heap.size l (some l) := by
    rw [hw3]
    exact ⟨0, false, Nat.zero_le _, ⟨by go_cell, by go_cell, by go_cell⟩, ⟨World.frozen?_alloc_new _ _ _ _, World.frozen?_alloc_new _ _ _ _, World.frozen?_alloc_new _ _ _ _⟩, rfl⟩
  have HS := Lib.hid (show I5 w3 w.heap.size ⟨0, 0, 0, 0, 0⟩ ∧ I5 w3 w1.heap.size ⟨op, 0, 0, 0, 0⟩ ∧ Rd w3 w2.heap.size l (some l) ∧ Below w.heap.size w w3 from
    ⟨(hi1.below hb2 (by omega)).below hb3 (by omega), hi2.below hb3 (by omega), hr3, (hb1.trans (hb2.mono (by omega))).trans (hb3.mono (by omega))⟩)
  have HSZ := Lib.hid (And.intro hs1 hs2)
  have HW1 := Lib.hid hw1
  have HW2 := Lib.hid hw2
  have HW3 := Lib.hid hw3
  clear hs1 hs2 hs3 hb1 hb2 hb3 hi1 hi2 hr3 hw1 hw2 hw3 hl
  go_enter Tryd.func21, Tryd.ntmps21
  go_upto_region 1 with fail
  rw [← HW1.out]
  go_upto_region 2 with fail
  rw [← HW2.out]
  go_upto_region 5 with fail
  rw [← HW3.out]
  go_wp2_with fail
  refine (HE.out _ w3 _ HS.out.2.2.1).mono ?_
  rintro e w4 ⟨rfl, hr, hb⟩
  have HR4 := Lib.hid hr
  have HB4 := Lib.hid hb
  clear hr hb
  go_wp2_with fail
  refine (HG.out _ w4 _ HR4.out).mono ?_
  rintro e w5 ⟨rfl, hr, hb⟩
  have HR5 := Lib.hid hr
  have HB5 := Lib.hid (HB4.out.trans hb)
  clear hr hb
  go_wp2_with fail
  refine (HC.out _ w5 _ HR5.out).mono ?_
  rintro e w6 ⟨rfl, hr, hb⟩
  have HB6 := HB5.out.trans hb
  have hs := HSZ.out
  have HS6 := Lib.hid (show RS w w6 l w1.heap.size w2.heap.size ⟨op, 0, 0, 0, 0⟩ (eatO (regO (eatO (some l) [32])).2 [44]) from
    ⟨HS.out.1.below HB6 (by omega), HS.out.2.1.below HB6 (by omega), hr, HS.out.2.2.2.trans (HB6.mono (by omega)), by omega, by omega⟩)
  clear hs
  have HBA2 := HBA.out
  obtain ⟨f, hf⟩ : ∃ f, f = (regO (eatO (some l) [32])).1 := ⟨_, rfl⟩
  rw [← hf] at HBA2
  generalize eatO (regO (eatO (some l) [32])).2 [44] = st at *
  have HBB := Lib.hid HBA2
  rw [← hf]
  clear hr hb HB6 HBA2 HBA HR4 HR5 HB4 HB5 HS hf HE
  go_upto_block 0 with fail
  go_cut [10] from 32 to 129 (fun t10 wx => ∃ rd rs1 rs2 n st', t10 = .int .i64 n ∧ Hid (ba = ((rd, rs1, rs2, n), st') ∧ (-10000000000 < n ∧ n < 10000000000) ∧ RS w wx l w1.heap.size w2.heap.size ⟨op, rd, rs1, rs2, 0⟩ st'))
  case first =>
    -- CLASSES
    by_cases h0 : op ≤ 3
    · have hba := HBB.out
      unfold bodyO at hba
      rw [if_pos h0] at hba
      have HBC := Lib.hid hba
      clear hba HBB
      have t4 : (op == 4) = false := by rw [beq_eq_false_iff_ne]; omega
      have t57 : (op == 57) = false := by rw [beq_eq_false_iff_ne]; omega
      have t46 : (op == 46) = false := by rw [beq_eq_false_iff_ne]; omega
      obtain ⟨-, ⟨⟨c0, c1, c2, c3, c4⟩, f0, f1, f2, f3, f4⟩, -⟩ := HS6.out
      go_wp2_with fail
      refine (HN.out _ _ _ (HS6.out.set1 _).rd).mono ?_
      rintro e w7 ⟨rfl, hr, hb⟩
      have HS7 := Lib.hid ((HS6.out.set1 _).call hr hb)
      clear hr hb c0 c1 c2 c3 c4 f0 f1 f2 f3 f4
      obtain ⟨-, ⟨⟨c0, c1, c2, c3, c4⟩, f0, f1, f2, f3, f4⟩, -⟩ := HS7.out
      go_wp2_with fail
      go_meet
      case rel => exact ⟨_, _, _, _, _, rfl, Lib.hid ⟨HBC.out, num_bound _, HS7.out⟩⟩
    by_cases h1 : op = 4 ∨ (19 ≤ op ∧ op ≤ 27) ∨ op = 57
    · have hba := HBB.out
      unfold bodyO at hba
      rw [if_neg h0] at hba
      rw [if_pos h1] at hba
      have HBC := Lib.hid hba
      clear hba HBB
      have t46 : (op == 46) = false := by rw [beq_eq_false_iff_ne]; omega
      have tq : (op == 4) = true ∨ ((op == 4) = false ∧ 19 ≤ op ∧ op ≤ 27) ∨ ((op == 4) = false ∧ (op == 57) = true ∧ ¬ op ≤ 27 ∧ 19 ≤ op) := by
        rcases h1 with e | e | e
        · exact Or.inl (by rw [beq_iff_eq]; exact e)
        · exact Or.inr (Or.inl ⟨by rw [beq_eq_false_iff_ne]; omega, e.1, e.2⟩)
        · exact Or.inr (Or.inr ⟨by rw [beq_eq_false_iff_ne]; omega, by rw [beq_iff_eq]; exact e, by omega, by omega⟩)
      have q0 : ¬ op ≤ 3 := h0
      clear h1 h0 hop
      rcases tq with t4 | ⟨t4, u1, u2⟩ | ⟨t4, t57, u1, u2⟩
      · obtain ⟨-, ⟨⟨c0, c1, c2, c3, c4⟩, f0, f1, f2, f3, f4⟩, -⟩ := HS6.out
        go_wp2_with fail
        refine (HG.out _ _ _ (HS6.out.set1 _).rd).mono ?_
        rintro e w7 ⟨rfl, hr, hb⟩
        have HS7 := Lib.hid ((HS6.out.set1 _).call hr hb)
        clear hr hb c0 c1 c2 c3 c4 f0 f1 f2 f3 f4
        obtain ⟨-, ⟨⟨c0, c1, c2, c3, c4⟩, f0, f1, f2, f3, f4⟩, -⟩ := HS7.out
        go_wp2_with fail
        refine (HC.out _ _ _ (HS7.out.set2 _).rd).mono ?_
        rintro e w8 ⟨rfl, hr, hb⟩
        have HS8 := Lib.hid ((HS7.out.set2 _).call hr hb)
        clear hr hb c0 c1 c2 c3 c4 f0 f1 f2 f3 f4
        obtain ⟨-, ⟨⟨c0, c1, c2, c3, c4⟩, f0, f1, f2, f3, f4⟩, -⟩ := HS8.out
        go_wp2_with fail
        refine (HN.out _ _ _ HS8.out.rd).mono ?_
        rintro e w9 ⟨rfl, hr, hb⟩
        have HS9 := Lib.hid (HS8.out.call hr hb)
        clear hr hb c0 c1 c2 c3 c4 f0 f1 f2 f3 f4
        obtain ⟨-, ⟨⟨c0, c1, c2, c3, c4⟩, f0, f1, f2, f3, f4⟩, -⟩ := HS9.out
        go_wp2_with fail
        go_meet
        case rel => exact ⟨_, _, _, _, _, rfl, Lib.hid ⟨HBC.out, num_bound _, HS9.out⟩⟩
      · obtain ⟨-, ⟨⟨c0, c1, c2, c3, c4⟩, f0, f1, f2, f3, f4⟩, -⟩ := HS6.out
        go_wp2_with fail
        refine (HG.out _ _ _ (HS6.out.set1 _).rd).mono ?_
        rintro e w7 ⟨rfl, hr, hb⟩
        have HS7 := Lib.hid ((HS6.out.set1 _).call hr hb)
        clear hr hb c0 c1 c2 c3 c4 f0 f1 f2 f3 f4
        obtain ⟨-, ⟨⟨c0, c1, c2, c3, c4⟩, f0, f1, f2, f3, f4⟩, -⟩ := HS7.out
        go_wp2_with fail
        refine (HC.out _ _ _ (HS7.out.set2 _).rd).mono ?_
        rintro e w8 ⟨rfl, hr, hb⟩
        have HS8 := Lib.hid ((HS7.out.set2 _).call hr hb)
        clear hr hb c0 c1 c2 c3 c4 f0 f1 f2 f3 f4
        obtain ⟨-, ⟨⟨c0, c1, c2, c3, c4⟩, f0, f1, f2, f3, f4⟩, -⟩ := HS8.out
        go_wp2_with fail
        refine (HN.out _ _ _ HS8.out.rd).mono ?_
        rintro e w9 ⟨rfl, hr, hb⟩
        have HS9 := Lib.hid (HS8.out.call hr hb)
        clear hr hb c0 c1 c2 c3 c4 f0 f1 f2 f3 f4
        obtain ⟨-, ⟨⟨c0, c1, c2, c3, c4⟩, f0, f1, f2, f3, f4⟩, -⟩ := HS9.out
        go_wp2_with fail
        go_meet
        case rel => exact ⟨_, _, _, _, _, rfl, Lib.hid ⟨HBC.out, num_bound _, HS9.out⟩⟩
      · obtain ⟨-, ⟨⟨c0, c1, c2, c3, c4⟩, f0, f1, f2, f3, f4⟩, -⟩ := HS6.out
        go_wp2_with fail
        refine (HG.out _ _ _ (HS6.out.set1 _).rd).mono ?_
        rintro e w7 ⟨rfl, hr, hb⟩
        have HS7 := Lib.hid ((HS6.out.set1 _).call hr hb)
        clear hr hb c0 c1 c2 c3 c4 f0 f1 f2 f3 f4
        obtain ⟨-, ⟨⟨c0, c1, c2, c3, c4⟩, f0, f1, f2, f3, f4⟩, -⟩ := HS7.out
        go_wp2_with fail
        refine (HC.out _ _ _ (HS7.out.set2 _).rd).mono ?_
        rintro e w8 ⟨rfl, hr, hb⟩
        have HS8 := Lib.hid ((HS7.out.set2 _).call hr hb)
        clear hr hb c0 c1 c2 c3 c4 f0 f1 f2 f3 f4
        obtain ⟨-, ⟨⟨c0, c1, c2, c3, c4⟩, f0, f1, f2, f3, f4⟩, -⟩ := HS8.out
        go_wp2_with fail
        refine (HN.out _ _ _ HS8.out.rd).mono ?_
        rintro e w9 ⟨rfl, hr, hb⟩
        have HS9 := Lib.hid (HS8.out.call hr hb)
        clear hr hb c0 c1 c2 c3 c4 f0 f1 f2 f3 f4
        obtain ⟨-, ⟨⟨c0, c1, c2, c3, c4⟩, f0, f1, f2, f3, f4⟩, -⟩ := HS9.out
        go_wp2_with fail
        go_meet
        case rel => exact ⟨_, _, _, _, _, rfl, Lib.hid ⟨HBC.out, num_bound _, HS9.out⟩⟩
    by_cases h2 : op ≤ 10
    · have hba := HBB.out
      unfold bodyO at hba
      rw [if_neg h0] at hba
      rw [if_neg h1] at hba
      rw [if_pos h2] at hba
      have HBC := Lib.hid hba
      clear hba HBB
      have t4 : (op == 4) = false := by rw [beq_eq_false_iff_ne]; omega
      have t57 : (op == 57) = false := by rw [beq_eq_false_iff_ne]; omega
      have t46 : (op == 46) = false := by rw [beq_eq_false_iff_ne]; omega
      obtain ⟨-, ⟨⟨c0, c1, c2, c3, c4⟩, f0, f1, f2, f3, f4⟩, -⟩ := HS6.out
      go_wp2_with fail
      refine (HG.out _ _ _ (HS6.out.set2 _).rd).mono ?_
      rintro e w7 ⟨rfl, hr, hb⟩
      have HS7 := Lib.hid ((HS6.out.set2 _).call hr hb)
      clear hr hb c0 c1 c2 c3 c4 f0 f1 f2 f3 f4
      obtain ⟨-, ⟨⟨c0, c1, c2, c3, c4⟩, f0, f1, f2, f3, f4⟩, -⟩ := HS7.out
      go_wp2_with fail
      refine (HC.out _ _ _ (HS7.out.set3 _).rd).mono ?_
      rintro e w8 ⟨rfl, hr, hb⟩
      have HS8 := Lib.hid ((HS7.out.set3 _).call hr hb)
      clear hr hb c0 c1 c2 c3 c4 f0 f1 f2 f3 f4
      obtain ⟨-, ⟨⟨c0, c1, c2, c3, c4⟩, f0, f1, f2, f3, f4⟩, -⟩ := HS8.out
      go_wp2_with fail
      refine (HN.out _ _ _ HS8.out.rd).mono ?_
      rintro e w9 ⟨rfl, hr, hb⟩
      have HS9 := Lib.hid (HS8.out.call hr hb)
      clear hr hb c0 c1 c2 c3 c4 f0 f1 f2 f3 f4
      obtain ⟨-, ⟨⟨c0, c1, c2, c3, c4⟩, f0, f1, f2, f3, f4⟩, -⟩ := HS9.out
      go_wp2_with fail
      go_meet
      case rel => exact ⟨_, _, _, _, _, rfl, Lib.hid ⟨HBC.out, num_bound _, HS9.out⟩⟩
    by_cases h3 : op ≤ 15
    · have hba := HBB.out
      unfold bodyO at hba
      rw [if_neg h0] at hba
      rw [if_neg h1] at hba
      rw [if_neg h2] at hba
      rw [if_pos h3] at hba
      have HBC := Lib.hid hba
      clear hba HBB
      have t4 : (op == 4) = false := by rw [beq_eq_false_iff_ne]; omega
      have t57 : (op == 57) = false := by rw [beq_eq_false_iff_ne]; omega
      have t46 : (op == 46) = false := by rw [beq_eq_false_iff_ne]; omega
      obtain ⟨-, ⟨⟨c0, c1, c2, c3, c4⟩, f0, f1, f2, f3, f4⟩, -⟩ := HS6.out
      go_wp2_with fail
      refine (HN.out _ _ _ (HS6.out.set1 _).rd).mono ?_
      rintro e w7 ⟨rfl, hr, hb⟩
      have HS7 := Lib.hid ((HS6.out.set1 _).call hr hb)
      clear hr hb c0 c1 c2 c3 c4 f0 f1 f2 f3 f4
      obtain ⟨-, ⟨⟨c0, c1, c2, c3, c4⟩, f0, f1, f2, f3, f4⟩, -⟩ := HS7.out
      go_wp2_with fail
      refine (HP.out _ _ _ HS7.out.rd).mono ?_
      rintro e w8 ⟨rfl, hr, hb⟩
      have HS8 := Lib.hid (HS7.out.call hr hb)
      clear hr hb c0 c1 c2 c3 c4 f0 f1 f2 f3 f4
      obtain ⟨-, ⟨⟨c0, c1, c2, c3, c4⟩, f0, f1, f2, f3, f4⟩, -⟩ := HS8.out
      go_wp2_with fail
      go_meet
      case rel => exact ⟨_, _, _, _, _, rfl, Lib.hid ⟨HBC.out, num_bound _, (HS8.out.set2 _)⟩⟩
    by_cases h4 : op ≤ 18
    · have hba := HBB.out
      unfold bodyO at hba
      rw [if_neg h0] at hba
      rw [if_neg h1] at hba
      rw [if_neg h2] at hba
      rw [if_neg h3] at hba
      rw [if_pos h4] at hba
      have HBC := Lib.hid hba
      clear hba HBB
      have t4 : (op == 4) = false := by rw [beq_eq_false_iff_ne]; omega
      have t57 : (op == 57) = false := by rw [beq_eq_false_iff_ne]; omega
      have t46 : (op == 46) = false := by rw [beq_eq_false_iff_ne]; omega
      obtain ⟨-, ⟨⟨c0, c1, c2, c3, c4⟩, f0, f1, f2, f3, f4⟩, -⟩ := HS6.out
      go_wp2_with fail
      refine (HN.out _ _ _ (HS6.out.set3 _).rd).mono ?_
      rintro e w7 ⟨rfl, hr, hb⟩
      have HS7 := Lib.hid ((HS6.out.set3 _).call hr hb)
      clear hr hb c0 c1 c2 c3 c4 f0 f1 f2 f3 f4
      obtain ⟨-, ⟨⟨c0, c1, c2, c3, c4⟩, f0, f1, f2, f3, f4⟩, -⟩ := HS7.out
      go_wp2_with fail
      refine (HP.out _ _ _ HS7.out.rd).mono ?_
      rintro e w8 ⟨rfl, hr, hb⟩
      have HS8 := Lib.hid (HS7.out.call hr hb)
      clear hr hb c0 c1 c2 c3 c4 f0 f1 f2 f3 f4
      obtain ⟨-, ⟨⟨c0, c1, c2, c3, c4⟩, f0, f1, f2, f3, f4⟩, -⟩ := HS8.out
      go_wp2_with fail
      go_meet
      case rel => exact ⟨_, _, _, _, _, rfl, Lib.hid ⟨HBC.out, num_bound _, (HS8.out.set2 _)⟩⟩
    by_cases h5 : op ≤ 45
    · have hba := HBB.out
      unfold bodyO at hba
      rw [if_neg h0] at hba
      rw [if_neg h1] at hba
      rw [if_neg h2] at hba
      rw [if_neg h3] at hba
      rw [if_neg h4] at hba
      rw [if_pos h5] at hba
      have HBC := Lib.hid hba
      clear hba HBB
      have t4 : (op == 4) = false := by rw [beq_eq_false_iff_ne]; omega
      have t57 : (op == 57) = false := by rw [beq_eq_false_iff_ne]; omega
      have t46 : (op == 46) = false := by rw [beq_eq_false_iff_ne]; omega
      obtain ⟨-, ⟨⟨c0, c1, c2, c3, c4⟩, f0, f1, f2, f3, f4⟩, -⟩ := HS6.out
      go_wp2_with fail
      refine (HG.out _ _ _ (HS6.out.set1 _).rd).mono ?_
      rintro e w7 ⟨rfl, hr, hb⟩
      have HS7 := Lib.hid ((HS6.out.set1 _).call hr hb)
      clear hr hb c0 c1 c2 c3 c4 f0 f1 f2 f3 f4
      obtain ⟨-, ⟨⟨c0, c1, c2, c3, c4⟩, f0, f1, f2, f3, f4⟩, -⟩ := HS7.out
      go_wp2_with fail
      refine (HC.out _ _ _ (HS7.out.set2 _).rd).mono ?_
      rintro e w8 ⟨rfl, hr, hb⟩
      have HS8 := Lib.hid ((HS7.out.set2 _).call hr hb)
      clear hr hb c0 c1 c2 c3 c4 f0 f1 f2 f3 f4
      obtain ⟨-, ⟨⟨c0, c1, c2, c3, c4⟩, f0, f1, f2, f3, f4⟩, -⟩ := HS8.out
      go_wp2_with fail
      refine (HG.out _ _ _ HS8.out.rd).mono ?_
      rintro e w9 ⟨rfl, hr, hb⟩
      have HS9 := Lib.hid (HS8.out.call hr hb)
      clear hr hb c0 c1 c2 c3 c4 f0 f1 f2 f3 f4
      obtain ⟨-, ⟨⟨c0, c1, c2, c3, c4⟩, f0, f1, f2, f3, f4⟩, -⟩ := HS9.out
      go_wp2_with fail
      go_meet
      case rel => exact ⟨_, _, _, _, _, rfl, Lib.hid ⟨HBC.out, ⟨by omega, by omega⟩, (HS9.out.set3 _)⟩⟩
    by_cases h6 : op = 46
    · have hba := HBB.out
      unfold bodyO at hba
      rw [if_neg h0] at hba
      rw [if_neg h1] at hba
      rw [if_neg h2] at hba
      rw [if_neg h3] at hba
      rw [if_neg h4] at hba
      rw [if_neg h5] at hba
      rw [if_pos h6] at hba
      have HBC := Lib.hid hba
      clear hba HBB
      have t4 : (op == 4) = false := by rw [beq_eq_false_iff_ne]; omega
      have t57 : (op == 57) = false := by rw [beq_eq_false_iff_ne]; omega
      have t46 : (op == 46) = true := by rw [beq_iff_eq]; omega
      have H46 := Lib.hid h6
      have j1 : ¬ op ≤ 45 := h5
      obtain ⟨-, ⟨⟨c0, c1, c2, c3, c4⟩, f0, f1, f2, f3, f4⟩, -⟩ := HS6.out
      go_wp2_with fail
      refine (HP.out _ _ _ (HS6.out.set1 _).rd).mono ?_
      rintro e w7 ⟨rfl, hr, hb⟩
      have HS7 := Lib.hid ((HS6.out.set1 _).call hr hb)
      clear hr hb c0 c1 c2 c3 c4 f0 f1 f2 f3 f4
      obtain ⟨-, ⟨⟨c0, c1, c2, c3, c4⟩, f0, f1, f2, f3, f4⟩, -⟩ := HS7.out
      go_wp2_with fail
      rw [← H46.out]
      go_meet
      case rel => exact ⟨_, _, _, _, _, rfl, Lib.hid ⟨HBC.out, ⟨by omega, by omega⟩, (HS7.out.set2 _)⟩⟩
    · have hba := HBB.out
      unfold bodyO at hba
      rw [if_neg h0] at hba
      rw [if_neg h1] at hba
      rw [if_neg h2] at hba
      rw [if_neg h3] at hba
      rw [if_neg h4] at hba
      rw [if_neg h5] at hba
      rw [if_neg h6] at hba
      have HBC := Lib.hid hba
      clear hba HBB
      have t4 : (op == 4) = false := by rw [beq_eq_false_iff_ne]; omega
      have t57 : (op == 57) = false := by rw [beq_eq_false_iff_ne]; omega
      have t46 : (op == 46) = false := by rw [beq_eq_false_iff_ne]; omega
      obtain ⟨-, ⟨⟨c0, c1, c2, c3, c4⟩, f0, f1, f2, f3, f4⟩, -⟩ := HS6.out
      go_wp2_with fail
      refine (HG.out _ _ _ (HS6.out.set1 _).rd).mono ?_
      rintro e w7 ⟨rfl, hr, hb⟩
      have HS7 := Lib.hid ((HS6.out.set1 _).call hr hb)
      clear hr hb c0 c1 c2 c3 c4 f0 f1 f2 f3 f4
      obtain ⟨-, ⟨⟨c0, c1, c2, c3, c4⟩, f0, f1, f2, f3, f4⟩, -⟩ := HS7.out
      go_wp2_with fail
      refine (HC.out _ _ _ (HS7.out.set3 _).rd).mono ?_
      rintro e w8 ⟨rfl, hr, hb⟩
      have HS8 := Lib.hid ((HS7.out.set3 _).call hr hb)
      clear hr hb c0 c1 c2 c3 c4 f0 f1 f2 f3 f4
      obtain ⟨-, ⟨⟨c0, c1, c2, c3, c4⟩, f0, f1, f2, f3, f4⟩, -⟩ := HS8.out
      go_wp2_with fail
      refine (HP.out _ _ _ HS8.out.rd).mono ?_
      rintro e w9 ⟨rfl, hr, hb⟩
      have HS9 := Lib.hid (HS8.out.call hr hb)
      clear hr hb c0 c1 c2 c3 c4 f0 f1 f2 f3 f4
      obtain ⟨-, ⟨⟨c0, c1, c2, c3, c4⟩, f0, f1, f2, f3, f4⟩, -⟩ := HS9.out
      go_wp2_with fail
      go_meet
      case rel => exact ⟨_, _, _, _, _, rfl, Lib.hid ⟨HBC.out, ⟨by omega, by omega⟩, (HS9.out.set2 _)⟩⟩
    -- END CLASSES
  case rest =>
    obtain ⟨rd, rs1, rs2, n, st', rfl, H⟩ := hcut
    have HRO := Lib.hid (show ro = (⟨op, rd, rs1, rs2, wrap32 (upO op n)⟩, decide (st' = some [] ∧ wrap32 (upO op n) = upO op n)) by rw [HRD.out, H.out.1])
    obtain ⟨im, him⟩ : ∃ x, x = wrap32 (upO op n) := ⟨_, rfl⟩
    obtain ⟨wz, hwz⟩ : ∃ x, x = wc.setCell ⟨w1.heap.size, 4, none⟩ (.int .i32 im) := ⟨_, rfl⟩
    have HZ := Lib.hid (show RS w wz l w1.heap.size w2.heap.size ⟨op, rd, rs1, rs2, im⟩ st' by rw [hwz]; exact H.out.2.2.set4 im)
    have HBD := Lib.hid (show (-4294967296000000 < upO op n ∧ upO op n < 4294967296000000) by have := H.out.2.1; unfold upO; split <;> omega)
    obtain ⟨-, ⟨⟨c0, c1, c2, c3, c4⟩, f0, f1, f2, f3, f4⟩, -⟩ := H.out.2.2
    rw [← him] at HRO
    have HIM := Lib.hid him
    have HWZ := Lib.hid hwz
    have HOP := Lib.hid hop
    have hn1 := H.out.2.1.1
    have hn2 := H.out.2.1.2
    clear him hwz n58 n59 hop HC HN HG HP HBB HS6 HRD
    obtain ⟨m, hmm⟩ : ∃ m, m = upO op n := ⟨_, rfl⟩
    rw [← hmm] at HRO HIM HBD
    have HMM := Lib.hid hmm
    have HN1 := Lib.hid (And.intro hn1 hn2)
    clear hmm hn1 hn2
    obtain ⟨wd, rfl⟩ : ∃ x : World, x = wc := ⟨_, rfl⟩
    go_upto_if 131 with fail
    go_cut [10] from 131 to 133 (fun t10 wx => t10 = .int .i64 m ∧ wx = wd)
    case first =>
      by_cases h2 : op ≤ 2
      · have hm : wrap64 (4096 * n) = m := by
          have := HN1.out
          rw [HMM.out]
          unfold upO wrap64
          rw [if_pos h2]
          omega
        go_wp2_with fail
        go_meet
        case rel => exact ⟨by first | rfl | rw [hm], rfl⟩
      · have hm : m = n := by rw [HMM.out]; unfold upO; rw [if_neg h2]
        have HM := Lib.hid hm
        clear hm
        go_wp2_with fail
        go_meet
        case rel => exact ⟨by first | rfl | rw [HM.out], rfl⟩
    case rest =>
    obtain ⟨rfl, hwd⟩ := hcut
    rw [hwd]
    clear hwd
    go_upto_region 47 with fail
    rw [← HIM.out, ← HWZ.out]
    clear c0 c1 c2 c3 c4 f0 f1 f2 f3 f4
    obtain ⟨⟨⟨d0, d1, d2, d3, d4⟩, g0, g1, g2, g3, g4⟩, ⟨⟨c0, c1, c2, c3, c4⟩, f0, f1, f2, f3, f4⟩, ⟨k, bad, hk, ⟨r0, r1, r2⟩, ⟨q0, q1, q2⟩, hst⟩, -⟩ := HZ.out
    have hne1 : ¬ w.heap.size = w1.heap.size := by have := HSZ.out; omega
    have hne2 : ¬ w.heap.size = w2.heap.size := by have := HSZ.out; omega
    cases bad with
    | true =>
      have hro : ro = (⟨op, rd, rs1, rs2, im⟩, false) := by
        rw [HRO.out, hst]
        exact congrArg _ (decide_eq_false (fun h => by cases h.1))
      subst hro
      clear hst hk
      refine wp_region_held_drew (S := (fun W => W.cell? ⟨w1.heap.size, 0, none⟩ = some (.int .i64 op) ∧ W.cell? ⟨w1.heap.size, 1, none⟩ = some (.int .i64 rd) ∧ W.cell? ⟨w1.heap.size, 2, none⟩ = some (.int .i64 rs1) ∧ W.cell? ⟨w1.heap.size, 3, none⟩ = some (.int .i64 rs2) ∧ W.cell? ⟨w1.heap.size, 4, none⟩ = some (.int .i32 im) ∧ W.cell? ⟨w2.heap.size, 1, none⟩ = some (.int .i64 k) ∧ W.cell? ⟨w2.heap.size, 2, none⟩ = some (.bool true))) (by kernel_rfl) (by refine ⟨?_, ?_, ?_, ?_, ?_, ?_, ?_⟩ <;> first | exact c0 | exact c1 | exact c2 | exact c3 | exact c4 | exact r1 | exact r2) (fun hHeld => ?_)
      refine wpAnyH_take (i := 0) (v := .agg #[.int .i64 op, .int .i64 rd, .int .i64 rs1, .int .i64 rs2, .int .i32 im]) rfl (by kernel_rfl) (by kernel_rfl) (by kernel_rfl) (fun _ _ _ h => h) (Or.inl ⟨by rfl, ?_⟩) (by assumption) ?_
      · (try simp only [List.getElem_toArray, List.getElem_cons_zero, List.getElem_cons_succ]); intro w hSw; (try dsimp only at hSw); clear hHeld c0 c1 c2 c3 c4 r0 r1 r2; obtain ⟨z0, z1, z2, z3, z4, z5, z6⟩ := hSw; go_simp
      try simp only [List.getElem_toArray, List.getElem_cons_zero, List.getElem_cons_succ, Act.put, List.setIfInBounds_toArray, List.set_cons_zero, List.set_cons_succ]
      refine wpAnyH_take (i := 1) (v := .pointer (some ⟨w2.heap.size, 0, none⟩)) rfl (by kernel_rfl) (by kernel_rfl) (by kernel_rfl) (fun _ _ _ h => h) (Or.inl ⟨by rfl, ?_⟩) (by assumption) ?_
      · (try simp only [List.getElem_toArray, List.getElem_cons_zero, List.getElem_cons_succ]); intro w hSw; (try dsimp only at hSw); clear hHeld c0 c1 c2 c3 c4 r0 r1 r2; obtain ⟨z0, z1, z2, z3, z4, z5, z6⟩ := hSw; go_simp
      try simp only [List.getElem_toArray, List.getElem_cons_zero, List.getElem_cons_succ, Act.put, List.setIfInBounds_toArray, List.set_cons_zero, List.set_cons_succ]
      refine wpAnyH_take (i := 2) (v := .pointer (some ⟨w2.heap.size, 0, none⟩)) rfl (by kernel_rfl) (by kernel_rfl) (by kernel_rfl) (fun _ _ _ h => h) (Or.inl ⟨by rfl, ?_⟩) (by assumption) ?_
      · (try simp only [List.getElem_toArray, List.getElem_cons_zero, List.getElem_cons_succ]); intro w hSw; (try dsimp only at hSw); clear hHeld c0 c1 c2 c3 c4 r0 r1 r2; obtain ⟨z0, z1, z2, z3, z4, z5, z6⟩ := hSw; go_simp
      try simp only [List.getElem_toArray, List.getElem_cons_zero, List.getElem_cons_succ, Act.put, List.setIfInBounds_toArray, List.set_cons_zero, List.set_cons_succ]
      refine wpAnyH_take (i := 3) (v := .pointer (some ⟨w2.heap.size, 2, none⟩)) rfl (by kernel_rfl) (by kernel_rfl) (by kernel_rfl) (fun _ _ _ h => h) (Or.inl ⟨by rfl, ?_⟩) (by assumption) ?_
      · (try simp only [List.getElem_toArray, List.getElem_cons_zero, List.getElem_cons_succ]); intro w hSw; (try dsimp only at hSw); clear hHeld c0 c1 c2 c3 c4 r0 r1 r2; obtain ⟨z0, z1, z2, z3, z4, z5, z6⟩ := hSw; go_simp
      try simp only [List.getElem_toArray, List.getElem_cons_zero, List.getElem_cons_succ, Act.put, List.setIfInBounds_toArray, List.set_cons_zero, List.set_cons_succ]
      refine wpAnyH_take (i := 4) (v := .bool true) rfl (by kernel_rfl) (by kernel_rfl) (by kernel_rfl) (fun _ _ _ h => h) (Or.inl ⟨by rfl, ?_⟩) (by assumption) ?_
      · (try simp only [List.getElem_toArray, List.getElem_cons_zero, List.getElem_cons_succ]); intro w hSw; (try dsimp only at hSw); clear hHeld c0 c1 c2 c3 c4 r0 r1 r2; obtain ⟨z0, z1, z2, z3, z4, z5, z6⟩ := hSw; go_simp
      try simp only [List.getElem_toArray, List.getElem_cons_zero, List.getElem_cons_succ, Act.put, List.setIfInBounds_toArray, List.set_cons_zero, List.set_cons_succ]
      refine wpAnyH_take (i := 5) (v := .bool false) rfl (by kernel_rfl) (by kernel_rfl) (by kernel_rfl) (fun _ _ _ h => h) (Or.inl ⟨by rfl, ?_⟩) (by assumption) ?_
      · (try simp only [List.getElem_toArray, List.getElem_cons_zero, List.getElem_cons_succ]); intro w hSw; (try dsimp only at hSw); clear hHeld c0 c1 c2 c3 c4 r0 r1 r2; obtain ⟨z0, z1, z2, z3, z4, z5, z6⟩ := hSw; go_simp
      try simp only [List.getElem_toArray, List.getElem_cons_zero, List.getElem_cons_succ, Act.put, List.setIfInBounds_toArray, List.set_cons_zero, List.set_cons_succ]
      refine wpAnyH_take (i := 6) (v := .bool false) rfl (by kernel_rfl) (by kernel_rfl) (by kernel_rfl) (fun _ _ _ h => h) (Or.inl ⟨by rfl, ?_⟩) (by assumption) ?_
      · (try simp only [List.getElem_toArray, List.getElem_cons_zero, List.getElem_cons_succ]); intro w hSw; (try dsimp only at hSw); clear hHeld c0 c1 c2 c3 c4 r0 r1 r2; obtain ⟨z0, z1, z2, z3, z4, z5, z6⟩ := hSw; go_simp
      try simp only [List.getElem_toArray, List.getElem_cons_zero, List.getElem_cons_succ, Act.put, List.setIfInBounds_toArray, List.set_cons_zero, List.set_cons_succ]
      refine wpAnyH_take (i := 7) (v := undef) rfl (by kernel_rfl) (by kernel_rfl) (by kernel_rfl) (fun _ _ _ h => h) (Or.inr ⟨by rfl, rfl⟩) (by assumption) ?_
      try simp only [List.getElem_toArray, List.getElem_cons_zero, List.getElem_cons_succ, Act.put, List.setIfInBounds_toArray, List.set_cons_zero, List.set_cons_succ]
      refine wpAnyH_take (i := 8) (v := undef) rfl (by kernel_rfl) (by kernel_rfl) (by kernel_rfl) (fun _ _ _ h => h) (Or.inr ⟨by rfl, rfl⟩) (by assumption) ?_
      try simp only [List.getElem_toArray, List.getElem_cons_zero, List.getElem_cons_succ, Act.put, List.setIfInBounds_toArray, List.set_cons_zero, List.set_cons_succ]
      refine wpAnyH_take (i := 9) (v := undef) rfl (by kernel_rfl) (by kernel_rfl) (by kernel_rfl) (fun _ _ _ h => h) (Or.inr ⟨by rfl, rfl⟩) (by assumption) ?_
      try simp only [List.getElem_toArray, List.getElem_cons_zero, List.getElem_cons_succ, Act.put, List.setIfInBounds_toArray, List.set_cons_zero, List.set_cons_succ]
      refine wpAnyH_take (i := 10) (v := undef) rfl (by kernel_rfl) (by kernel_rfl) (by kernel_rfl) (fun _ _ _ h => h) (Or.inr ⟨by rfl, rfl⟩) (by assumption) ?_
      try simp only [List.getElem_toArray, List.getElem_cons_zero, List.getElem_cons_succ, Act.put, List.setIfInBounds_toArray, List.set_cons_zero, List.set_cons_succ]
      refine wpAnyH_take (i := 11) (v := undef) rfl (by kernel_rfl) (by kernel_rfl) (by kernel_rfl) (fun _ _ _ h => h) (Or.inr ⟨by rfl, rfl⟩) (by assumption) ?_
      try simp only [List.getElem_toArray, List.getElem_cons_zero, List.getElem_cons_succ, Act.put, List.setIfInBounds_toArray, List.set_cons_zero, List.set_cons_succ]
      refine wpAnyH_take (i := 12) (v := undef) rfl (by kernel_rfl) (by kernel_rfl) (by kernel_rfl) (fun _ _ _ h => h) (Or.inr ⟨by rfl, rfl⟩) (by assumption) ?_
      try simp only [List.getElem_toArray, List.getElem_cons_zero, List.getElem_cons_succ, Act.put, List.setIfInBounds_toArray, List.set_cons_zero, List.set_cons_succ]
      refine wpAnyH_take (i := 13) (v := undef) rfl (by kernel_rfl) (by kernel_rfl) (by kernel_rfl) (fun _ _ _ h => h) (Or.inr ⟨by rfl, rfl⟩) (by assumption) ?_
      try simp only [List.getElem_toArray, List.getElem_cons_zero, List.getElem_cons_succ, Act.put, List.setIfInBounds_toArray, List.set_cons_zero, List.set_cons_succ]
      refine wpAnyH_take (i := 14) (v := .bool false) rfl (by kernel_rfl) (by kernel_rfl) (by kernel_rfl) (fun _ _ _ h => h) (Or.inl ⟨by rfl, ?_⟩) (by assumption) ?_
      · (try simp only [List.getElem_toArray, List.getElem_cons_zero, List.getElem_cons_succ]); intro w hSw; (try dsimp only at hSw); clear hHeld c0 c1 c2 c3 c4 r0 r1 r2; obtain ⟨z0, z1, z2, z3, z4, z5, z6⟩ := hSw; go_simp
      try simp only [List.getElem_toArray, List.getElem_cons_zero, List.getElem_cons_succ, Act.put, List.setIfInBounds_toArray, List.set_cons_zero, List.set_cons_succ]
      refine wpAnyH_take (i := 15) (v := .bool false) rfl (by kernel_rfl) (by kernel_rfl) (by kernel_rfl) (fun _ _ _ h => h) (Or.inl ⟨by rfl, ?_⟩) (by assumption) ?_
      · (try simp only [List.getElem_toArray, List.getElem_cons_zero, List.getElem_cons_succ]); intro w hSw; (try dsimp only at hSw); clear hHeld c0 c1 c2 c3 c4 r0 r1 r2; obtain ⟨z0, z1, z2, z3, z4, z5, z6⟩ := hSw; go_simp
      try simp only [List.getElem_toArray, List.getElem_cons_zero, List.getElem_cons_succ, Act.put, List.setIfInBounds_toArray, List.set_cons_zero, List.set_cons_succ]
      refine wpAnyH_take (i := 16) (v := undef) rfl (by kernel_rfl) (by kernel_rfl) (by kernel_rfl) (fun _ _ _ h => h) (Or.inr ⟨by rfl, rfl⟩) (by assumption) ?_
      try simp only [List.getElem_toArray, List.getElem_cons_zero, List.getElem_cons_succ, Act.put, List.setIfInBounds_toArray, List.set_cons_zero, List.set_cons_succ]
      refine wpAnyH_take (i := 17) (v := undef) rfl (by kernel_rfl) (by kernel_rfl) (by kernel_rfl) (fun _ _ _ h => h) (Or.inr ⟨by rfl, rfl⟩) (by assumption) ?_
      try simp only [List.getElem_toArray, List.getElem_cons_zero, List.getElem_cons_succ, Act.put, List.setIfInBounds_toArray, List.set_cons_zero, List.set_cons_succ]
      refine wpAnyH_take (i := 18) (v := undef) rfl (by kernel_rfl) (by kernel_rfl) (by kernel_rfl) (fun _ _ _ h => h) (Or.inr ⟨by rfl, rfl⟩) (by assumption) ?_
      try simp only [List.getElem_toArray, List.getElem_cons_zero, List.getElem_cons_succ, Act.put, List.setIfInBounds_toArray, List.set_cons_zero, List.set_cons_succ]
      refine wpAnyH_take (i := 19) (v := undef) rfl (by kernel_rfl) (by kernel_rfl) (by kernel_rfl) (fun _ _ _ h => h) (Or.inr ⟨by rfl, rfl⟩) (by assumption) ?_
      try simp only [List.getElem_toArray, List.getElem_cons_zero, List.getElem_cons_succ, Act.put, List.setIfInBounds_toArray, List.set_cons_zero, List.set_cons_succ]
      refine wpAnyH_take (i := 20) (v := undef) rfl (by kernel_rfl) (by kernel_rfl) (by kernel_rfl) (fun _ _ _ h => h) (Or.inr ⟨by rfl, rfl⟩) (by assumption) ?_
      try simp only [List.getElem_toArray, List.getElem_cons_zero, List.getElem_cons_succ, Act.put, List.setIfInBounds_toArray, List.set_cons_zero, List.set_cons_succ]
      refine wpAnyH_take (i := 21) (v := .bool false) rfl (by kernel_rfl) (by kernel_rfl) (by kernel_rfl) (fun _ _ _ h => h) (Or.inl ⟨by rfl, ?_⟩) (by assumption) ?_
      · (try simp only [List.getElem_toArray, List.getElem_cons_zero, List.getElem_cons_succ]); intro w hSw; (try dsimp only at hSw); clear hHeld c0 c1 c2 c3 c4 r0 r1 r2; obtain ⟨z0, z1, z2, z3, z4, z5, z6⟩ := hSw; go_simp
      try simp only [List.getElem_toArray, List.getElem_cons_zero, List.getElem_cons_succ, Act.put, List.setIfInBounds_toArray, List.set_cons_zero, List.set_cons_succ]
      refine wpAnyH_ready (rs := [22]) (by kernel_rfl) (by simp) ?_
      refine AllReadyH.cons rfl (fun K hK => ?_) AllReadyH.nil
      go_simp
      refine hK.out _ _ (by refine ⟨?_, ?_, ?_, ?_, ?_, ?_, ?_⟩ <;> go_cell) (fun hHeld2 => ?_)
      clear hK K
      refine wpAnyH_take (i := 23) (v := .bool false) rfl (by kernel_rfl) (by kernel_rfl) (by kernel_rfl) (fun _ _ _ h => h) (Or.inl ⟨by rfl, ?_⟩) (by assumption) ?_
      · (try simp only [List.getElem_toArray, List.getElem_cons_zero, List.getElem_cons_succ]); intro w hSw; clear hHeld hHeld2 hSw c0 c1 c2 c3 c4 r0 r1 r2; go_simp
      try simp only [List.getElem_toArray, List.getElem_cons_zero, List.getElem_cons_succ, Act.put, List.setIfInBounds_toArray, List.set_cons_zero, List.set_cons_succ]
      refine wpAnyH_done (by kernel_rfl) ?_ _
      clear hHeld hHeld2
      go_wp2_with fail
      have hbs := (below_set5 (b := w.heap.size) HZ.out.2.2.2.1 (Nat.le_refl _) ⟨op, rd, rs1, rs2, im⟩).drew
      have hld := I5.load (HZ.out.1.set5 ⟨op, rd, rs1, rs2, im⟩).drew
      unfold W.set5 at hbs hld
      refine bodyPost_ret (results_c1u (by rfl) _ (by rfl) hld) rfl ⟨rfl, ?_⟩
      exact hbs
    | false =>
      rw [if_neg (by decide)] at hst
      by_cases hke : k = l.length
      · have hkq : ((k : Int) == ((bs l).size : Int)) = true := by rw [bs_size, hke]; simp
        have hnil : l.drop k = [] := by rw [hke, List.drop_length]
        have hr32 : -2147483648 ≤ im ∧ im ≤ 2147483647 := by rw [HIM.out]; unfold wrap32; omega
        have hwi : wrap64 im = im := by unfold wrap64; omega
        have hwi2 : IntKind.i64.wrap im = im := by simp (disch := omega) only [IntWalk.i64_in]
        by_cases hfm : im = m
        · have hro : ro = (⟨op, rd, rs1, rs2, im⟩, true) := by
            rw [HRO.out, hst]
            exact congrArg _ (decide_eq_true ⟨by rw [hnil], hfm⟩)
          have hfq : (im == m) = true := by rw [beq_iff_eq]; exact hfm
          subst hro
          clear hst hk hke hnil hr32 hfm
          refine wp_region_held_drew (S := (fun W => W.cell? ⟨w1.heap.size, 0, none⟩ = some (.int .i64 op) ∧ W.cell? ⟨w1.heap.size, 1, none⟩ = some (.int .i64 rd) ∧ W.cell? ⟨w1.heap.size, 2, none⟩ = some (.int .i64 rs1) ∧ W.cell? ⟨w1.heap.size, 3, none⟩ = some (.int .i64 rs2) ∧ W.cell? ⟨w1.heap.size, 4, none⟩ = some (.int .i32 im) ∧ W.cell? ⟨w2.heap.size, 1, none⟩ = some (.int .i64 k) ∧ W.cell? ⟨w2.heap.size, 2, none⟩ = some (.bool false))) (by kernel_rfl) (by refine ⟨?_, ?_, ?_, ?_, ?_, ?_, ?_⟩ <;> first | exact c0 | exact c1 | exact c2 | exact c3 | exact c4 | exact r1 | exact r2) (fun hHeld => ?_)
          refine wpAnyH_take (i := 0) (v := .agg #[.int .i64 op, .int .i64 rd, .int .i64 rs1, .int .i64 rs2, .int .i32 im]) rfl (by kernel_rfl) (by kernel_rfl) (by kernel_rfl) (fun _ _ _ h => h) (Or.inl ⟨by rfl, ?_⟩) (by assumption) ?_
          · (try simp only [List.getElem_toArray, List.getElem_cons_zero, List.getElem_cons_succ]); intro w hSw; (try dsimp only at hSw); clear hHeld c0 c1 c2 c3 c4 r0 r1 r2; obtain ⟨z0, z1, z2, z3, z4, z5, z6⟩ := hSw; go_simp
          try simp only [List.getElem_toArray, List.getElem_cons_zero, List.getElem_cons_succ, Act.put, List.setIfInBounds_toArray, List.set_cons_zero, List.set_cons_succ]
          refine wpAnyH_take (i := 1) (v := .pointer (some ⟨w2.heap.size, 0, none⟩)) rfl (by kernel_rfl) (by kernel_rfl) (by kernel_rfl) (fun _ _ _ h => h) (Or.inl ⟨by rfl, ?_⟩) (by assumption) ?_
          · (try simp only [List.getElem_toArray, List.getElem_cons_zero, List.getElem_cons_succ]); intro w hSw; (try dsimp only at hSw); clear hHeld c0 c1 c2 c3 c4 r0 r1 r2; obtain ⟨z0, z1, z2, z3, z4, z5, z6⟩ := hSw; go_simp
          try simp only [List.getElem_toArray, List.getElem_cons_zero, List.getElem_cons_succ, Act.put, List.setIfInBounds_toArray, List.set_cons_zero, List.set_cons_succ]
          refine wpAnyH_take (i := 2) (v := .pointer (some ⟨w2.heap.size, 0, none⟩)) rfl (by kernel_rfl) (by kernel_rfl) (by kernel_rfl) (fun _ _ _ h => h) (Or.inl ⟨by rfl, ?_⟩) (by assumption) ?_
          · (try simp only [List.getElem_toArray, List.getElem_cons_zero, List.getElem_cons_succ]); intro w hSw; (try dsimp only at hSw); clear hHeld c0 c1 c2 c3 c4 r0 r1 r2; obtain ⟨z0, z1, z2, z3, z4, z5, z6⟩ := hSw; go_simp
          try simp only [List.getElem_toArray, List.getElem_cons_zero, List.getElem_cons_succ, Act.put, List.setIfInBounds_toArray, List.set_cons_zero, List.set_cons_succ]
          refine wpAnyH_take (i := 3) (v := .pointer (some ⟨w2.heap.size, 2, none⟩)) rfl (by kernel_rfl) (by kernel_rfl) (by kernel_rfl) (fun _ _ _ h => h) (Or.inl ⟨by rfl, ?_⟩) (by assumption) ?_
          · (try simp only [List.getElem_toArray, List.getElem_cons_zero, List.getElem_cons_succ]); intro w hSw; (try dsimp only at hSw); clear hHeld c0 c1 c2 c3 c4 r0 r1 r2; obtain ⟨z0, z1, z2, z3, z4, z5, z6⟩ := hSw; go_simp
          try simp only [List.getElem_toArray, List.getElem_cons_zero, List.getElem_cons_succ, Act.put, List.setIfInBounds_toArray, List.set_cons_zero, List.set_cons_succ]
          refine wpAnyH_take (i := 4) (v := .bool false) rfl (by kernel_rfl) (by kernel_rfl) (by kernel_rfl) (fun _ _ _ h => h) (Or.inl ⟨by rfl, ?_⟩) (by assumption) ?_
          · (try simp only [List.getElem_toArray, List.getElem_cons_zero, List.getElem_cons_succ]); intro w hSw; (try dsimp only at hSw); clear hHeld c0 c1 c2 c3 c4 r0 r1 r2; obtain ⟨z0, z1, z2, z3, z4, z5, z6⟩ := hSw; go_simp
          try simp only [List.getElem_toArray, List.getElem_cons_zero, List.getElem_cons_succ, Act.put, List.setIfInBounds_toArray, List.set_cons_zero, List.set_cons_succ]
          refine wpAnyH_take (i := 5) (v := .bool true) rfl (by kernel_rfl) (by kernel_rfl) (by kernel_rfl) (fun _ _ _ h => h) (Or.inl ⟨by rfl, ?_⟩) (by assumption) ?_
          · (try simp only [List.getElem_toArray, List.getElem_cons_zero, List.getElem_cons_succ]); intro w hSw; (try dsimp only at hSw); clear hHeld c0 c1 c2 c3 c4 r0 r1 r2; obtain ⟨z0, z1, z2, z3, z4, z5, z6⟩ := hSw; go_simp
          try simp only [List.getElem_toArray, List.getElem_cons_zero, List.getElem_cons_succ, Act.put, List.setIfInBounds_toArray, List.set_cons_zero, List.set_cons_succ]
          refine wpAnyH_take (i := 6) (v := .bool true) rfl (by kernel_rfl) (by kernel_rfl) (by kernel_rfl) (fun _ _ _ h => h) (Or.inl ⟨by rfl, ?_⟩) (by assumption) ?_
          · (try simp only [List.getElem_toArray, List.getElem_cons_zero, List.getElem_cons_succ]); intro w hSw; (try dsimp only at hSw); clear hHeld c0 c1 c2 c3 c4 r0 r1 r2; obtain ⟨z0, z1, z2, z3, z4, z5, z6⟩ := hSw; go_simp
          try simp only [List.getElem_toArray, List.getElem_cons_zero, List.getElem_cons_succ, Act.put, List.setIfInBounds_toArray, List.set_cons_zero, List.set_cons_succ]
          refine wpAnyH_take (i := 7) (v := .pointer (some ⟨w2.heap.size, 0, none⟩)) rfl (by kernel_rfl) (by kernel_rfl) (by kernel_rfl) (fun _ _ _ h => h) (Or.inl ⟨by rfl, ?_⟩) (by assumption) ?_
          · (try simp only [List.getElem_toArray, List.getElem_cons_zero, List.getElem_cons_succ]); intro w hSw; (try dsimp only at hSw); clear hHeld c0 c1 c2 c3 c4 r0 r1 r2; obtain ⟨z0, z1, z2, z3, z4, z5, z6⟩ := hSw; go_simp
          try simp only [List.getElem_toArray, List.getElem_cons_zero, List.getElem_cons_succ, Act.put, List.setIfInBounds_toArray, List.set_cons_zero, List.set_cons_succ]
          refine wpAnyH_take (i := 8) (v := .pointer (some ⟨w2.heap.size, 0, none⟩)) rfl (by kernel_rfl) (by kernel_rfl) (by kernel_rfl) (fun _ _ _ h => h) (Or.inl ⟨by rfl, ?_⟩) (by assumption) ?_
          · (try simp only [List.getElem_toArray, List.getElem_cons_zero, List.getElem_cons_succ]); intro w hSw; (try dsimp only at hSw); clear hHeld c0 c1 c2 c3 c4 r0 r1 r2; obtain ⟨z0, z1, z2, z3, z4, z5, z6⟩ := hSw; go_simp
          try simp only [List.getElem_toArray, List.getElem_cons_zero, List.getElem_cons_succ, Act.put, List.setIfInBounds_toArray, List.set_cons_zero, List.set_cons_succ]
          refine wpAnyH_take (i := 9) (v := .pointer (some ⟨w2.heap.size, 1, none⟩)) rfl (by kernel_rfl) (by kernel_rfl) (by kernel_rfl) (fun _ _ _ h => h) (Or.inl ⟨by rfl, ?_⟩) (by assumption) ?_
          · (try simp only [List.getElem_toArray, List.getElem_cons_zero, List.getElem_cons_succ]); intro w hSw; (try dsimp only at hSw); clear hHeld c0 c1 c2 c3 c4 r0 r1 r2; obtain ⟨z0, z1, z2, z3, z4, z5, z6⟩ := hSw; go_simp
          try simp only [List.getElem_toArray, List.getElem_cons_zero, List.getElem_cons_succ, Act.put, List.setIfInBounds_toArray, List.set_cons_zero, List.set_cons_succ]
          refine wpAnyH_take (i := 10) (v := .int .i64 k) rfl (by kernel_rfl) (by kernel_rfl) (by kernel_rfl) (fun _ _ _ h => h) (Or.inl ⟨by rfl, ?_⟩) (by assumption) ?_
          · (try simp only [List.getElem_toArray, List.getElem_cons_zero, List.getElem_cons_succ]); intro w hSw; (try dsimp only at hSw); clear hHeld c0 c1 c2 c3 c4 r0 r1 r2; obtain ⟨z0, z1, z2, z3, z4, z5, z6⟩ := hSw; go_simp
          try simp only [List.getElem_toArray, List.getElem_cons_zero, List.getElem_cons_succ, Act.put, List.setIfInBounds_toArray, List.set_cons_zero, List.set_cons_succ]
          refine wpAnyH_take (i := 11) (v := .string (bs l)) rfl (by kernel_rfl) (by kernel_rfl) (by kernel_rfl) (fun _ _ _ h => h) (Or.inl ⟨by rfl, ?_⟩) (by assumption) ?_
          · (try simp only [List.getElem_toArray, List.getElem_cons_zero, List.getElem_cons_succ]); intro w hSw; (try dsimp only at hSw); clear hHeld c0 c1 c2 c3 c4 r0 r1 r2; obtain ⟨z0, z1, z2, z3, z4, z5, z6⟩ := hSw; go_simp
          try simp only [List.getElem_toArray, List.getElem_cons_zero, List.getElem_cons_succ, Act.put, List.setIfInBounds_toArray, List.set_cons_zero, List.set_cons_succ]
          refine wpAnyH_take (i := 12) (v := .int .i64 (bs l).size) rfl (by kernel_rfl) (by kernel_rfl) (by kernel_rfl) (fun _ _ _ h => h) (Or.inl ⟨by rfl, ?_⟩) (by assumption) ?_
          · (try simp only [List.getElem_toArray, List.getElem_cons_zero, List.getElem_cons_succ]); intro w hSw; (try dsimp only at hSw); clear hHeld c0 c1 c2 c3 c4 r0 r1 r2; obtain ⟨z0, z1, z2, z3, z4, z5, z6⟩ := hSw; go_simp
          try simp only [List.getElem_toArray, List.getElem_cons_zero, List.getElem_cons_succ, Act.put, List.setIfInBounds_toArray, List.set_cons_zero, List.set_cons_succ]
          refine wpAnyH_take (i := 13) (v := .bool true) rfl (by kernel_rfl) (by kernel_rfl) (by kernel_rfl) (fun _ _ _ h => h) (Or.inl ⟨by rfl, ?_⟩) (by assumption) ?_
          · (try simp only [List.getElem_toArray, List.getElem_cons_zero, List.getElem_cons_succ]); intro w hSw; (try dsimp only at hSw); clear hHeld c0 c1 c2 c3 c4 r0 r1 r2; obtain ⟨z0, z1, z2, z3, z4, z5, z6⟩ := hSw; go_simp
          try simp only [List.getElem_toArray, List.getElem_cons_zero, List.getElem_cons_succ, Act.put, List.setIfInBounds_toArray, List.set_cons_zero, List.set_cons_succ]
          refine wpAnyH_take (i := 14) (v := .bool true) rfl (by kernel_rfl) (by kernel_rfl) (by kernel_rfl) (fun _ _ _ h => h) (Or.inl ⟨by rfl, ?_⟩) (by assumption) ?_
          · (try simp only [List.getElem_toArray, List.getElem_cons_zero, List.getElem_cons_succ]); intro w hSw; (try dsimp only at hSw); clear hHeld c0 c1 c2 c3 c4 r0 r1 r2; obtain ⟨z0, z1, z2, z3, z4, z5, z6⟩ := hSw; go_simp
          try simp only [List.getElem_toArray, List.getElem_cons_zero, List.getElem_cons_succ, Act.put, List.setIfInBounds_toArray, List.set_cons_zero, List.set_cons_succ]
          refine wpAnyH_take (i := 15) (v := .bool true) rfl (by kernel_rfl) (by kernel_rfl) (by kernel_rfl) (fun _ _ _ h => h) (Or.inl ⟨by rfl, ?_⟩) (by assumption) ?_
          · (try simp only [List.getElem_toArray, List.getElem_cons_zero, List.getElem_cons_succ]); intro w hSw; (try dsimp only at hSw); clear hHeld c0 c1 c2 c3 c4 r0 r1 r2; obtain ⟨z0, z1, z2, z3, z4, z5, z6⟩ := hSw; go_simp
          try simp only [List.getElem_toArray, List.getElem_cons_zero, List.getElem_cons_succ, Act.put, List.setIfInBounds_toArray, List.set_cons_zero, List.set_cons_succ]
          refine wpAnyH_take (i := 16) (v := .pointer (some ⟨w1.heap.size, 4, none⟩)) rfl (by kernel_rfl) (by kernel_rfl) (by kernel_rfl) (fun _ _ _ h => h) (Or.inl ⟨by rfl, ?_⟩) (by assumption) ?_
          · (try simp only [List.getElem_toArray, List.getElem_cons_zero, List.getElem_cons_succ]); intro w hSw; (try dsimp only at hSw); clear hHeld c0 c1 c2 c3 c4 r0 r1 r2; obtain ⟨z0, z1, z2, z3, z4, z5, z6⟩ := hSw; go_simp
          try simp only [List.getElem_toArray, List.getElem_cons_zero, List.getElem_cons_succ, Act.put, List.setIfInBounds_toArray, List.set_cons_zero, List.set_cons_succ]
          refine wpAnyH_take (i := 17) (v := .int .i32 im) rfl (by kernel_rfl) (by kernel_rfl) (by kernel_rfl) (fun _ _ _ h => h) (Or.inl ⟨by rfl, ?_⟩) (by assumption) ?_
          · (try simp only [List.getElem_toArray, List.getElem_cons_zero, List.getElem_cons_succ]); intro w hSw; (try dsimp only at hSw); clear hHeld c0 c1 c2 c3 c4 r0 r1 r2; obtain ⟨z0, z1, z2, z3, z4, z5, z6⟩ := hSw; go_simp
          try simp only [List.getElem_toArray, List.getElem_cons_zero, List.getElem_cons_succ, Act.put, List.setIfInBounds_toArray, List.set_cons_zero, List.set_cons_succ]
          refine wpAnyH_take (i := 18) (v := .int .i64 im) rfl (by kernel_rfl) (by kernel_rfl) (by kernel_rfl) (fun _ _ _ h => h) (Or.inl ⟨by rfl, ?_⟩) (by assumption) ?_
          · (try simp only [List.getElem_toArray, List.getElem_cons_zero, List.getElem_cons_succ]); intro w hSw; (try dsimp only at hSw); clear hHeld c0 c1 c2 c3 c4 r0 r1 r2; obtain ⟨z0, z1, z2, z3, z4, z5, z6⟩ := hSw; go_simp
          try simp only [List.getElem_toArray, List.getElem_cons_zero, List.getElem_cons_succ, Act.put, List.setIfInBounds_toArray, List.set_cons_zero, List.set_cons_succ]
          refine wpAnyH_take (i := 19) (v := .int .i64 m) rfl (by kernel_rfl) (by kernel_rfl) (by kernel_rfl) (fun _ _ _ h => h) (Or.inl ⟨by rfl, ?_⟩) (by assumption) ?_
          · (try simp only [List.getElem_toArray, List.getElem_cons_zero, List.getElem_cons_succ]); intro w hSw; (try dsimp only at hSw); clear hHeld c0 c1 c2 c3 c4 r0 r1 r2; obtain ⟨z0, z1, z2, z3, z4, z5, z6⟩ := hSw; go_simp
          try simp only [List.getElem_toArray, List.getElem_cons_zero, List.getElem_cons_succ, Act.put, List.setIfInBounds_toArray, List.set_cons_zero, List.set_cons_succ]
          refine wpAnyH_take (i := 20) (v := .bool true) rfl (by kernel_rfl) (by kernel_rfl) (by kernel_rfl) (fun _ _ _ h => h) (Or.inl ⟨by rfl, ?_⟩) (by assumption) ?_
          · (try simp only [List.getElem_toArray, List.getElem_cons_zero, List.getElem_cons_succ]); intro w hSw; (try dsimp only at hSw); clear hHeld c0 c1 c2 c3 c4 r0 r1 r2; obtain ⟨z0, z1, z2, z3, z4, z5, z6⟩ := hSw; go_simp
          try simp only [List.getElem_toArray, List.getElem_cons_zero, List.getElem_cons_succ, Act.put, List.setIfInBounds_toArray, List.set_cons_zero, List.set_cons_succ]
          refine wpAnyH_take (i := 21) (v := .bool true) rfl (by kernel_rfl) (by kernel_rfl) (by kernel_rfl) (fun _ _ _ h => h) (Or.inl ⟨by rfl, ?_⟩) (by assumption) ?_
          · (try simp only [List.getElem_toArray, List.getElem_cons_zero, List.getElem_cons_succ]); intro w hSw; (try dsimp only at hSw); clear hHeld c0 c1 c2 c3 c4 r0 r1 r2; obtain ⟨z0, z1, z2, z3, z4, z5, z6⟩ := hSw; go_simp
          try simp only [List.getElem_toArray, List.getElem_cons_zero, List.getElem_cons_succ, Act.put, List.setIfInBounds_toArray, List.set_cons_zero, List.set_cons_succ]
          refine wpAnyH_ready (rs := [22]) (by kernel_rfl) (by simp) ?_
          refine AllReadyH.cons rfl (fun K hK => ?_) AllReadyH.nil
          go_simp
          refine hK.out _ _ (by refine ⟨?_, ?_, ?_, ?_, ?_, ?_, ?_⟩ <;> go_cell) (fun hHeld2 => ?_)
          clear hK K
          refine wpAnyH_take (i := 23) (v := .bool true) rfl (by kernel_rfl) (by kernel_rfl) (by kernel_rfl) (fun _ _ _ h => h) (Or.inl ⟨by rfl, ?_⟩) (by assumption) ?_
          · (try simp only [List.getElem_toArray, List.getElem_cons_zero, List.getElem_cons_succ]); intro w hSw; clear hHeld hHeld2 hSw c0 c1 c2 c3 c4 r0 r1 r2; go_simp
          try simp only [List.getElem_toArray, List.getElem_cons_zero, List.getElem_cons_succ, Act.put, List.setIfInBounds_toArray, List.set_cons_zero, List.set_cons_succ]
          refine wpAnyH_done (by kernel_rfl) ?_ _
          clear hHeld hHeld2
          go_wp2_with fail
          have hbs := (below_set5 (b := w.heap.size) HZ.out.2.2.2.1 (Nat.le_refl _) ⟨op, rd, rs1, rs2, im⟩).drew
          have hld := I5.load (HZ.out.1.set5 ⟨op, rd, rs1, rs2, im⟩).drew
          unfold W.set5 at hbs hld
          refine bodyPost_ret (results_c1u (by rfl) _ (by rfl) hld) rfl ⟨rfl, ?_⟩
          exact hbs
        · have hro : ro = (⟨op, rd, rs1, rs2, im⟩, false) := by
            rw [HRO.out, hst]
            exact congrArg _ (decide_eq_false (fun h => hfm h.2))
          have hfq : (im == m) = false := by rw [beq_eq_false_iff_ne]; exact hfm
          subst hro
          clear hst hk hke hnil hr32 hfm
          refine wp_region_held_drew (S := (fun W => W.cell? ⟨w1.heap.size, 0, none⟩ = some (.int .i64 op) ∧ W.cell? ⟨w1.heap.size, 1, none⟩ = some (.int .i64 rd) ∧ W.cell? ⟨w1.heap.size, 2, none⟩ = some (.int .i64 rs1) ∧ W.cell? ⟨w1.heap.size, 3, none⟩ = some (.int .i64 rs2) ∧ W.cell? ⟨w1.heap.size, 4, none⟩ = some (.int .i32 im) ∧ W.cell? ⟨w2.heap.size, 1, none⟩ = some (.int .i64 k) ∧ W.cell? ⟨w2.heap.size, 2, none⟩ = some (.bool false))) (by kernel_rfl) (by refine ⟨?_, ?_, ?_, ?_, ?_, ?_, ?_⟩ <;> first | exact c0 | exact c1 | exact c2 | exact c3 | exact c4 | exact r1 | exact r2) (fun hHeld => ?_)
          refine wpAnyH_take (i := 0) (v := .agg #[.int .i64 op, .int .i64 rd, .int .i64 rs1, .int .i64 rs2, .int .i32 im]) rfl (by kernel_rfl) (by kernel_rfl) (by kernel_rfl) (fun _ _ _ h => h) (Or.inl ⟨by rfl, ?_⟩) (by assumption) ?_
          · (try simp only [List.getElem_toArray, List.getElem_cons_zero, List.getElem_cons_succ]); intro w hSw; (try dsimp only at hSw); clear hHeld c0 c1 c2 c3 c4 r0 r1 r2; obtain ⟨z0, z1, z2, z3, z4, z5, z6⟩ := hSw; go_simp
          try simp only [List.getElem_toArray, List.getElem_cons_zero, List.getElem_cons_succ, Act.put, List.setIfInBounds_toArray, List.set_cons_zero, List.set_cons_succ]
          refine wpAnyH_take (i := 1) (v := .pointer (some ⟨w2.heap.size, 0, none⟩)) rfl (by kernel_rfl) (by kernel_rfl) (by kernel_rfl) (fun _ _ _ h => h) (Or.inl ⟨by rfl, ?_⟩) (by assumption) ?_
          · (try simp only [List.getElem_toArray, List.getElem_cons_zero, List.getElem_cons_succ]); intro w hSw; (try dsimp only at hSw); clear hHeld c0 c1 c2 c3 c4 r0 r1 r2; obtain ⟨z0, z1, z2, z3, z4, z5, z6⟩ := hSw; go_simp
          try simp only [List.getElem_toArray, List.getElem_cons_zero, List.getElem_cons_succ, Act.put, List.setIfInBounds_toArray, List.set_cons_zero, List.set_cons_succ]
          refine wpAnyH_take (i := 2) (v := .pointer (some ⟨w2.heap.size, 0, none⟩)) rfl (by kernel_rfl) (by kernel_rfl) (by kernel_rfl) (fun _ _ _ h => h) (Or.inl ⟨by rfl, ?_⟩) (by assumption) ?_
          · (try simp only [List.getElem_toArray, List.getElem_cons_zero, List.getElem_cons_succ]); intro w hSw; (try dsimp only at hSw); clear hHeld c0 c1 c2 c3 c4 r0 r1 r2; obtain ⟨z0, z1, z2, z3, z4, z5, z6⟩ := hSw; go_simp
          try simp only [List.getElem_toArray, List.getElem_cons_zero, List.getElem_cons_succ, Act.put, List.setIfInBounds_toArray, List.set_cons_zero, List.set_cons_succ]
          refine wpAnyH_take (i := 3) (v := .pointer (some ⟨w2.heap.size, 2, none⟩)) rfl (by kernel_rfl) (by kernel_rfl) (by kernel_rfl) (fun _ _ _ h => h) (Or.inl ⟨by rfl, ?_⟩) (by assumption) ?_
          · (try simp only [List.getElem_toArray, List.getElem_cons_zero, List.getElem_cons_succ]); intro w hSw; (try dsimp only at hSw); clear hHeld c0 c1 c2 c3 c4 r0 r1 r2; obtain ⟨z0, z1, z2, z3, z4, z5, z6⟩ := hSw; go_simp
          try simp only [List.getElem_toArray, List.getElem_cons_zero, List.getElem_cons_succ, Act.put, List.setIfInBounds_toArray, List.set_cons_zero, List.set_cons_succ]
          refine wpAnyH_take (i := 4) (v := .bool false) rfl (by kernel_rfl) (by kernel_rfl) (by kernel_rfl) (fun _ _ _ h => h) (Or.inl ⟨by rfl, ?_⟩) (by assumption) ?_
          · (try simp only [List.getElem_toArray, List.getElem_cons_zero, List.getElem_cons_succ]); intro w hSw; (try dsimp only at hSw); clear hHeld c0 c1 c2 c3 c4 r0 r1 r2; obtain ⟨z0, z1, z2, z3, z4, z5, z6⟩ := hSw; go_simp
          try simp only [List.getElem_toArray, List.getElem_cons_zero, List.getElem_cons_succ, Act.put, List.setIfInBounds_toArray, List.set_cons_zero, List.set_cons_succ]
          refine wpAnyH_take (i := 5) (v := .bool true) rfl (by kernel_rfl) (by kernel_rfl) (by kernel_rfl) (fun _ _ _ h => h) (Or.inl ⟨by rfl, ?_⟩) (by assumption) ?_
          · (try simp only [List.getElem_toArray, List.getElem_cons_zero, List.getElem_cons_succ]); intro w hSw; (try dsimp only at hSw); clear hHeld c0 c1 c2 c3 c4 r0 r1 r2; obtain ⟨z0, z1, z2, z3, z4, z5, z6⟩ := hSw; go_simp
          try simp only [List.getElem_toArray, List.getElem_cons_zero, List.getElem_cons_succ, Act.put, List.setIfInBounds_toArray, List.set_cons_zero, List.set_cons_succ]
          refine wpAnyH_take (i := 6) (v := .bool true) rfl (by kernel_rfl) (by kernel_rfl) (by kernel_rfl) (fun _ _ _ h => h) (Or.inl ⟨by rfl, ?_⟩) (by assumption) ?_
          · (try simp only [List.getElem_toArray, List.getElem_cons_zero, List.getElem_cons_succ]); intro w hSw; (try dsimp only at hSw); clear hHeld c0 c1 c2 c3 c4 r0 r1 r2; obtain ⟨z0, z1, z2, z3, z4, z5, z6⟩ := hSw; go_simp
          try simp only [List.getElem_toArray, List.getElem_cons_zero, List.getElem_cons_succ, Act.put, List.setIfInBounds_toArray, List.set_cons_zero, List.set_cons_succ]
          refine wpAnyH_take (i := 7) (v := .pointer (some ⟨w2.heap.size, 0, none⟩)) rfl (by kernel_rfl) (by kernel_rfl) (by kernel_rfl) (fun _ _ _ h => h) (Or.inl ⟨by rfl, ?_⟩) (by assumption) ?_
          · (try simp only [List.getElem_toArray, List.getElem_cons_zero, List.getElem_cons_succ]); intro w hSw; (try dsimp only at hSw); clear hHeld c0 c1 c2 c3 c4 r0 r1 r2; obtain ⟨z0, z1, z2, z3, z4, z5, z6⟩ := hSw; go_simp
          try simp only [List.getElem_toArray, List.getElem_cons_zero, List.getElem_cons_succ, Act.put, List.setIfInBounds_toArray, List.set_cons_zero, List.set_cons_succ]
          refine wpAnyH_take (i := 8) (v := .pointer (some ⟨w2.heap.size, 0, none⟩)) rfl (by kernel_rfl) (by kernel_rfl) (by kernel_rfl) (fun _ _ _ h => h) (Or.inl ⟨by rfl, ?_⟩) (by assumption) ?_
          · (try simp only [List.getElem_toArray, List.getElem_cons_zero, List.getElem_cons_succ]); intro w hSw; (try dsimp only at hSw); clear hHeld c0 c1 c2 c3 c4 r0 r1 r2; obtain ⟨z0, z1, z2, z3, z4, z5, z6⟩ := hSw; go_simp
          try simp only [List.getElem_toArray, List.getElem_cons_zero, List.getElem_cons_succ, Act.put, List.setIfInBounds_toArray, List.set_cons_zero, List.set_cons_succ]
          refine wpAnyH_take (i := 9) (v := .pointer (some ⟨w2.heap.size, 1, none⟩)) rfl (by kernel_rfl) (by kernel_rfl) (by kernel_rfl) (fun _ _ _ h => h) (Or.inl ⟨by rfl, ?_⟩) (by assumption) ?_
          · (try simp only [List.getElem_toArray, List.getElem_cons_zero, List.getElem_cons_succ]); intro w hSw; (try dsimp only at hSw); clear hHeld c0 c1 c2 c3 c4 r0 r1 r2; obtain ⟨z0, z1, z2, z3, z4, z5, z6⟩ := hSw; go_simp
          try simp only [List.getElem_toArray, List.getElem_cons_zero, List.getElem_cons_succ, Act.put, List.setIfInBounds_toArray, List.set_cons_zero, List.set_cons_succ]
          refine wpAnyH_take (i := 10) (v := .int .i64 k) rfl (by kernel_rfl) (by kernel_rfl) (by kernel_rfl) (fun _ _ _ h => h) (Or.inl ⟨by rfl, ?_⟩) (by assumption) ?_
          · (try simp only [List.getElem_toArray, List.getElem_cons_zero, List.getElem_cons_succ]); intro w hSw; (try dsimp only at hSw); clear hHeld c0 c1 c2 c3 c4 r0 r1 r2; obtain ⟨z0, z1, z2, z3, z4, z5, z6⟩ := hSw; go_simp
          try simp only [List.getElem_toArray, List.getElem_cons_zero, List.getElem_cons_succ, Act.put, List.setIfInBounds_toArray, List.set_cons_zero, List.set_cons_succ]
          refine wpAnyH_take (i := 11) (v := .string (bs l)) rfl (by kernel_rfl) (by kernel_rfl) (by kernel_rfl) (fun _ _ _ h => h) (Or.inl ⟨by rfl, ?_⟩) (by assumption) ?_
          · (try simp only [List.getElem_toArray, List.getElem_cons_zero, List.getElem_cons_succ]); intro w hSw; (try dsimp only at hSw); clear hHeld c0 c1 c2 c3 c4 r0 r1 r2; obtain ⟨z0, z1, z2, z3, z4, z5, z6⟩ := hSw; go_simp
          try simp only [List.getElem_toArray, List.getElem_cons_zero, List.getElem_cons_succ, Act.put, List.setIfInBounds_toArray, List.set_cons_zero, List.set_cons_succ]
          refine wpAnyH_take (i := 12) (v := .int .i64 (bs l).size) rfl (by kernel_rfl) (by kernel_rfl) (by kernel_rfl) (fun _ _ _ h => h) (Or.inl ⟨by rfl, ?_⟩) (by assumption) ?_
          · (try simp only [List.getElem_toArray, List.getElem_cons_zero, List.getElem_cons_succ]); intro w hSw; (try dsimp only at hSw); clear hHeld c0 c1 c2 c3 c4 r0 r1 r2; obtain ⟨z0, z1, z2, z3, z4, z5, z6⟩ := hSw; go_simp
          try simp only [List.getElem_toArray, List.getElem_cons_zero, List.getElem_cons_succ, Act.put, List.setIfInBounds_toArray, List.set_cons_zero, List.set_cons_succ]
          refine wpAnyH_take (i := 13) (v := .bool true) rfl (by kernel_rfl) (by kernel_rfl) (by kernel_rfl) (fun _ _ _ h => h) (Or.inl ⟨by rfl, ?_⟩) (by assumption) ?_
          · (try simp only [List.getElem_toArray, List.getElem_cons_zero, List.getElem_cons_succ]); intro w hSw; (try dsimp only at hSw); clear hHeld c0 c1 c2 c3 c4 r0 r1 r2; obtain ⟨z0, z1, z2, z3, z4, z5, z6⟩ := hSw; go_simp
          try simp only [List.getElem_toArray, List.getElem_cons_zero, List.getElem_cons_succ, Act.put, List.setIfInBounds_toArray, List.set_cons_zero, List.set_cons_succ]
          refine wpAnyH_take (i := 14) (v := .bool true) rfl (by kernel_rfl) (by kernel_rfl) (by kernel_rfl) (fun _ _ _ h => h) (Or.inl ⟨by rfl, ?_⟩) (by assumption) ?_
          · (try simp only [List.getElem_toArray, List.getElem_cons_zero, List.getElem_cons_succ]); intro w hSw; (try dsimp only at hSw); clear hHeld c0 c1 c2 c3 c4 r0 r1 r2; obtain ⟨z0, z1, z2, z3, z4, z5, z6⟩ := hSw; go_simp
          try simp only [List.getElem_toArray, List.getElem_cons_zero, List.getElem_cons_succ, Act.put, List.setIfInBounds_toArray, List.set_cons_zero, List.set_cons_succ]
          refine wpAnyH_take (i := 15) (v := .bool true) rfl (by kernel_rfl) (by kernel_rfl) (by kernel_rfl) (fun _ _ _ h => h) (Or.inl ⟨by rfl, ?_⟩) (by assumption) ?_
          · (try simp only [List.getElem_toArray, List.getElem_cons_zero, List.getElem_cons_succ]); intro w hSw; (try dsimp only at hSw); clear hHeld c0 c1 c2 c3 c4 r0 r1 r2; obtain ⟨z0, z1, z2, z3, z4, z5, z6⟩ := hSw; go_simp
          try simp only [List.getElem_toArray, List.getElem_cons_zero, List.getElem_cons_succ, Act.put, List.setIfInBounds_toArray, List.set_cons_zero, List.set_cons_succ]
          refine wpAnyH_take (i := 16) (v := .pointer (some ⟨w1.heap.size, 4, none⟩)) rfl (by kernel_rfl) (by kernel_rfl) (by kernel_rfl) (fun _ _ _ h => h) (Or.inl ⟨by rfl, ?_⟩) (by assumption) ?_
          · (try simp only [List.getElem_toArray, List.getElem_cons_zero, List.getElem_cons_succ]); intro w hSw; (try dsimp only at hSw); clear hHeld c0 c1 c2 c3 c4 r0 r1 r2; obtain ⟨z0, z1, z2, z3, z4, z5, z6⟩ := hSw; go_simp
          try simp only [List.getElem_toArray, List.getElem_cons_zero, List.getElem_cons_succ, Act.put, List.setIfInBounds_toArray, List.set_cons_zero, List.set_cons_succ]
          refine wpAnyH_take (i := 17) (v := .int .i32 im) rfl (by kernel_rfl) (by kernel_rfl) (by kernel_rfl) (fun _ _ _ h => h) (Or.inl ⟨by rfl, ?_⟩) (by assumption) ?_
          · (try simp only [List.getElem_toArray, List.getElem_cons_zero, List.getElem_cons_succ]); intro w hSw; (try dsimp only at hSw); clear hHeld c0 c1 c2 c3 c4 r0 r1 r2; obtain ⟨z0, z1, z2, z3, z4, z5, z6⟩ := hSw; go_simp
          try simp only [List.getElem_toArray, List.getElem_cons_zero, List.getElem_cons_succ, Act.put, List.setIfInBounds_toArray, List.set_cons_zero, List.set_cons_succ]
          refine wpAnyH_take (i := 18) (v := .int .i64 im) rfl (by kernel_rfl) (by kernel_rfl) (by kernel_rfl) (fun _ _ _ h => h) (Or.inl ⟨by rfl, ?_⟩) (by assumption) ?_
          · (try simp only [List.getElem_toArray, List.getElem_cons_zero, List.getElem_cons_succ]); intro w hSw; (try dsimp only at hSw); clear hHeld c0 c1 c2 c3 c4 r0 r1 r2; obtain ⟨z0, z1, z2, z3, z4, z5, z6⟩ := hSw; go_simp
          try simp only [List.getElem_toArray, List.getElem_cons_zero, List.getElem_cons_succ, Act.put, List.setIfInBounds_toArray, List.set_cons_zero, List.set_cons_succ]
          refine wpAnyH_take (i := 19) (v := .int .i64 m) rfl (by kernel_rfl) (by kernel_rfl) (by kernel_rfl) (fun _ _ _ h => h) (Or.inl ⟨by rfl, ?_⟩) (by assumption) ?_
          · (try simp only [List.getElem_toArray, List.getElem_cons_zero, List.getElem_cons_succ]); intro w hSw; (try dsimp only at hSw); clear hHeld c0 c1 c2 c3 c4 r0 r1 r2; obtain ⟨z0, z1, z2, z3, z4, z5, z6⟩ := hSw; go_simp
          try simp only [List.getElem_toArray, List.getElem_cons_zero, List.getElem_cons_succ, Act.put, List.setIfInBounds_toArray, List.set_cons_zero, List.set_cons_succ]
          refine wpAnyH_take (i := 20) (v := .bool false) rfl (by kernel_rfl) (by kernel_rfl) (by kernel_rfl) (fun _ _ _ h => h) (Or.inl ⟨by rfl, ?_⟩) (by assumption) ?_
          · (try simp only [List.getElem_toArray, List.getElem_cons_zero, List.getElem_cons_succ]); intro w hSw; (try dsimp only at hSw); clear hHeld c0 c1 c2 c3 c4 r0 r1 r2; obtain ⟨z0, z1, z2, z3, z4, z5, z6⟩ := hSw; go_simp
          try simp only [List.getElem_toArray, List.getElem_cons_zero, List.getElem_cons_succ, Act.put, List.setIfInBounds_toArray, List.set_cons_zero, List.set_cons_succ]
          refine wpAnyH_take (i := 21) (v := .bool false) rfl (by kernel_rfl) (by kernel_rfl) (by kernel_rfl) (fun _ _ _ h => h) (Or.inl ⟨by rfl, ?_⟩) (by assumption) ?_
          · (try simp only [List.getElem_toArray, List.getElem_cons_zero, List.getElem_cons_succ]); intro w hSw; (try dsimp only at hSw); clear hHeld c0 c1 c2 c3 c4 r0 r1 r2; obtain ⟨z0, z1, z2, z3, z4, z5, z6⟩ := hSw; go_simp
          try simp only [List.getElem_toArray, List.getElem_cons_zero, List.getElem_cons_succ, Act.put, List.setIfInBounds_toArray, List.set_cons_zero, List.set_cons_succ]
          refine wpAnyH_ready (rs := [22]) (by kernel_rfl) (by simp) ?_
          refine AllReadyH.cons rfl (fun K hK => ?_) AllReadyH.nil
          go_simp
          refine hK.out _ _ (by refine ⟨?_, ?_, ?_, ?_, ?_, ?_, ?_⟩ <;> go_cell) (fun hHeld2 => ?_)
          clear hK K
          refine wpAnyH_take (i := 23) (v := .bool false) rfl (by kernel_rfl) (by kernel_rfl) (by kernel_rfl) (fun _ _ _ h => h) (Or.inl ⟨by rfl, ?_⟩) (by assumption) ?_
          · (try simp only [List.getElem_toArray, List.getElem_cons_zero, List.getElem_cons_succ]); intro w hSw; clear hHeld hHeld2 hSw c0 c1 c2 c3 c4 r0 r1 r2; go_simp
          try simp only [List.getElem_toArray, List.getElem_cons_zero, List.getElem_cons_succ, Act.put, List.setIfInBounds_toArray, List.set_cons_zero, List.set_cons_succ]
          refine wpAnyH_done (by kernel_rfl) ?_ _
          clear hHeld hHeld2
          go_wp2_with fail
          have hbs := (below_set5 (b := w.heap.size) HZ.out.2.2.2.1 (Nat.le_refl _) ⟨op, rd, rs1, rs2, im⟩).drew
          have hld := I5.load (HZ.out.1.set5 ⟨op, rd, rs1, rs2, im⟩).drew
          unfold W.set5 at hbs hld
          refine bodyPost_ret (results_c1u (by rfl) _ (by rfl) hld) rfl ⟨rfl, ?_⟩
          exact hbs
      · have hkq : ((k : Int) == ((bs l).size : Int)) = false := by rw [bs_size, beq_eq_false_iff_ne]; omega
        have hro : ro = (⟨op, rd, rs1, rs2, im⟩, false) := by
          rw [HRO.out, hst]
          refine congrArg _ (decide_eq_false (fun h => ?_))
          have h2 := congrArg List.length (Option.some.inj h.1)
          rw [List.length_drop] at h2
          simp at h2
          omega
        subst hro
        clear hst hk hke
        refine wp_region_held_drew (S := (fun W => W.cell? ⟨w1.heap.size, 0, none⟩ = some (.int .i64 op) ∧ W.cell? ⟨w1.heap.size, 1, none⟩ = some (.int .i64 rd) ∧ W.cell? ⟨w1.heap.size, 2, none⟩ = some (.int .i64 rs1) ∧ W.cell? ⟨w1.heap.size, 3, none⟩ = some (.int .i64 rs2) ∧ W.cell? ⟨w1.heap.size, 4, none⟩ = some (.int .i32 im) ∧ W.cell? ⟨w2.heap.size, 1, none⟩ = some (.int .i64 k) ∧ W.cell? ⟨w2.heap.size, 2, none⟩ = some (.bool false))) (by kernel_rfl) (by refine ⟨?_, ?_, ?_, ?_, ?_, ?_, ?_⟩ <;> first | exact c0 | exact c1 | exact c2 | exact c3 | exact c4 | exact r1 | exact r2) (fun hHeld => ?_)
        refine wpAnyH_take (i := 0) (v := .agg #[.int .i64 op, .int .i64 rd, .int .i64 rs1, .int .i64 rs2, .int .i32 im]) rfl (by kernel_rfl) (by kernel_rfl) (by kernel_rfl) (fun _ _ _ h => h) (Or.inl ⟨by rfl, ?_⟩) (by assumption) ?_
        · (try simp only [List.getElem_toArray, List.getElem_cons_zero, List.getElem_cons_succ]); intro w hSw; (try dsimp only at hSw); clear hHeld c0 c1 c2 c3 c4 r0 r1 r2; obtain ⟨z0, z1, z2, z3, z4, z5, z6⟩ := hSw; go_simp
        try simp only [List.getElem_toArray, List.getElem_cons_zero, List.getElem_cons_succ, Act.put, List.setIfInBounds_toArray, List.set_cons_zero, List.set_cons_succ]
        refine wpAnyH_take (i := 1) (v := .pointer (some ⟨w2.heap.size, 0, none⟩)) rfl (by kernel_rfl) (by kernel_rfl) (by kernel_rfl) (fun _ _ _ h => h) (Or.inl ⟨by rfl, ?_⟩) (by assumption) ?_
        · (try simp only [List.getElem_toArray, List.getElem_cons_zero, List.getElem_cons_succ]); intro w hSw; (try dsimp only at hSw); clear hHeld c0 c1 c2 c3 c4 r0 r1 r2; obtain ⟨z0, z1, z2, z3, z4, z5, z6⟩ := hSw; go_simp
        try simp only [List.getElem_toArray, List.getElem_cons_zero, List.getElem_cons_succ, Act.put, List.setIfInBounds_toArray, List.set_cons_zero, List.set_cons_succ]
        refine wpAnyH_take (i := 2) (v := .pointer (some ⟨w2.heap.size, 0, none⟩)) rfl (by kernel_rfl) (by kernel_rfl) (by kernel_rfl) (fun _ _ _ h => h) (Or.inl ⟨by rfl, ?_⟩) (by assumption) ?_
        · (try simp only [List.getElem_toArray, List.getElem_cons_zero, List.getElem_cons_succ]); intro w hSw; (try dsimp only at hSw); clear hHeld c0 c1 c2 c3 c4 r0 r1 r2; obtain ⟨z0, z1, z2, z3, z4, z5, z6⟩ := hSw; go_simp
        try simp only [List.getElem_toArray, List.getElem_cons_zero, List.getElem_cons_succ, Act.put, List.setIfInBounds_toArray, List.set_cons_zero, List.set_cons_succ]
        refine wpAnyH_take (i := 3) (v := .pointer (some ⟨w2.heap.size, 2, none⟩)) rfl (by kernel_rfl) (by kernel_rfl) (by kernel_rfl) (fun _ _ _ h => h) (Or.inl ⟨by rfl, ?_⟩) (by assumption) ?_
        · (try simp only [List.getElem_toArray, List.getElem_cons_zero, List.getElem_cons_succ]); intro w hSw; (try dsimp only at hSw); clear hHeld c0 c1 c2 c3 c4 r0 r1 r2; obtain ⟨z0, z1, z2, z3, z4, z5, z6⟩ := hSw; go_simp
        try simp only [List.getElem_toArray, List.getElem_cons_zero, List.getElem_cons_succ, Act.put, List.setIfInBounds_toArray, List.set_cons_zero, List.set_cons_succ]
        refine wpAnyH_take (i := 4) (v := .bool false) rfl (by kernel_rfl) (by kernel_rfl) (by kernel_rfl) (fun _ _ _ h => h) (Or.inl ⟨by rfl, ?_⟩) (by assumption) ?_
        · (try simp only [List.getElem_toArray, List.getElem_cons_zero, List.getElem_cons_succ]); intro w hSw; (try dsimp only at hSw); clear hHeld c0 c1 c2 c3 c4 r0 r1 r2; obtain ⟨z0, z1, z2, z3, z4, z5, z6⟩ := hSw; go_simp
        try simp only [List.getElem_toArray, List.getElem_cons_zero, List.getElem_cons_succ, Act.put, List.setIfInBounds_toArray, List.set_cons_zero, List.set_cons_succ]
        refine wpAnyH_take (i := 5) (v := .bool true) rfl (by kernel_rfl) (by kernel_rfl) (by kernel_rfl) (fun _ _ _ h => h) (Or.inl ⟨by rfl, ?_⟩) (by assumption) ?_
        · (try simp only [List.getElem_toArray, List.getElem_cons_zero, List.getElem_cons_succ]); intro w hSw; (try dsimp only at hSw); clear hHeld c0 c1 c2 c3 c4 r0 r1 r2; obtain ⟨z0, z1, z2, z3, z4, z5, z6⟩ := hSw; go_simp
        try simp only [List.getElem_toArray, List.getElem_cons_zero, List.getElem_cons_succ, Act.put, List.setIfInBounds_toArray, List.set_cons_zero, List.set_cons_succ]
        refine wpAnyH_take (i := 6) (v := .bool true) rfl (by kernel_rfl) (by kernel_rfl) (by kernel_rfl) (fun _ _ _ h => h) (Or.inl ⟨by rfl, ?_⟩) (by assumption) ?_
        · (try simp only [List.getElem_toArray, List.getElem_cons_zero, List.getElem_cons_succ]); intro w hSw; (try dsimp only at hSw); clear hHeld c0 c1 c2 c3 c4 r0 r1 r2; obtain ⟨z0, z1, z2, z3, z4, z5, z6⟩ := hSw; go_simp
        try simp only [List.getElem_toArray, List.getElem_cons_zero, List.getElem_cons_succ, Act.put, List.setIfInBounds_toArray, List.set_cons_zero, List.set_cons_succ]
        refine wpAnyH_take (i := 7) (v := .pointer (some ⟨w2.heap.size, 0, none⟩)) rfl (by kernel_rfl) (by kernel_rfl) (by kernel_rfl) (fun _ _ _ h => h) (Or.inl ⟨by rfl, ?_⟩) (by assumption) ?_
        · (try simp only [List.getElem_toArray, List.getElem_cons_zero, List.getElem_cons_succ]); intro w hSw; (try dsimp only at hSw); clear hHeld c0 c1 c2 c3 c4 r0 r1 r2; obtain ⟨z0, z1, z2, z3, z4, z5, z6⟩ := hSw; go_simp
        try simp only [List.getElem_toArray, List.getElem_cons_zero, List.getElem_cons_succ, Act.put, List.setIfInBounds_toArray, List.set_cons_zero, List.set_cons_succ]
        refine wpAnyH_take (i := 8) (v := .pointer (some ⟨w2.heap.size, 0, none⟩)) rfl (by kernel_rfl) (by kernel_rfl) (by kernel_rfl) (fun _ _ _ h => h) (Or.inl ⟨by rfl, ?_⟩) (by assumption) ?_
        · (try simp only [List.getElem_toArray, List.getElem_cons_zero, List.getElem_cons_succ]); intro w hSw; (try dsimp only at hSw); clear hHeld c0 c1 c2 c3 c4 r0 r1 r2; obtain ⟨z0, z1, z2, z3, z4, z5, z6⟩ := hSw; go_simp
        try simp only [List.getElem_toArray, List.getElem_cons_zero, List.getElem_cons_succ, Act.put, List.setIfInBounds_toArray, List.set_cons_zero, List.set_cons_succ]
        refine wpAnyH_take (i := 9) (v := .pointer (some ⟨w2.heap.size, 1, none⟩)) rfl (by kernel_rfl) (by kernel_rfl) (by kernel_rfl) (fun _ _ _ h => h) (Or.inl ⟨by rfl, ?_⟩) (by assumption) ?_
        · (try simp only [List.getElem_toArray, List.getElem_cons_zero, List.getElem_cons_succ]); intro w hSw; (try dsimp only at hSw); clear hHeld c0 c1 c2 c3 c4 r0 r1 r2; obtain ⟨z0, z1, z2, z3, z4, z5, z6⟩ := hSw; go_simp
        try simp only [List.getElem_toArray, List.getElem_cons_zero, List.getElem_cons_succ, Act.put, List.setIfInBounds_toArray, List.set_cons_zero, List.set_cons_succ]
        refine wpAnyH_take (i := 10) (v := .int .i64 k) rfl (by kernel_rfl) (by kernel_rfl) (by kernel_rfl) (fun _ _ _ h => h) (Or.inl ⟨by rfl, ?_⟩) (by assumption) ?_
        · (try simp only [List.getElem_toArray, List.getElem_cons_zero, List.getElem_cons_succ]); intro w hSw; (try dsimp only at hSw); clear hHeld c0 c1 c2 c3 c4 r0 r1 r2; obtain ⟨z0, z1, z2, z3, z4, z5, z6⟩ := hSw; go_simp
        try simp only [List.getElem_toArray, List.getElem_cons_zero, List.getElem_cons_succ, Act.put, List.setIfInBounds_toArray, List.set_cons_zero, List.set_cons_succ]
        refine wpAnyH_take (i := 11) (v := .string (bs l)) rfl (by kernel_rfl) (by kernel_rfl) (by kernel_rfl) (fun _ _ _ h => h) (Or.inl ⟨by rfl, ?_⟩) (by assumption) ?_
        · (try simp only [List.getElem_toArray, List.getElem_cons_zero, List.getElem_cons_succ]); intro w hSw; (try dsimp only at hSw); clear hHeld c0 c1 c2 c3 c4 r0 r1 r2; obtain ⟨z0, z1, z2, z3, z4, z5, z6⟩ := hSw; go_simp
        try simp only [List.getElem_toArray, List.getElem_cons_zero, List.getElem_cons_succ, Act.put, List.setIfInBounds_toArray, List.set_cons_zero, List.set_cons_succ]
        refine wpAnyH_take (i := 12) (v := .int .i64 (bs l).size) rfl (by kernel_rfl) (by kernel_rfl) (by kernel_rfl) (fun _ _ _ h => h) (Or.inl ⟨by rfl, ?_⟩) (by assumption) ?_
        · (try simp only [List.getElem_toArray, List.getElem_cons_zero, List.getElem_cons_succ]); intro w hSw; (try dsimp only at hSw); clear hHeld c0 c1 c2 c3 c4 r0 r1 r2; obtain ⟨z0, z1, z2, z3, z4, z5, z6⟩ := hSw; go_simp
        try simp only [List.getElem_toArray, List.getElem_cons_zero, List.getElem_cons_succ, Act.put, List.setIfInBounds_toArray, List.set_cons_zero, List.set_cons_succ]
        refine wpAnyH_take (i := 13) (v := .bool false) rfl (by kernel_rfl) (by kernel_rfl) (by kernel_rfl) (fun _ _ _ h => h) (Or.inl ⟨by rfl, ?_⟩) (by assumption) ?_
        · (try simp only [List.getElem_toArray, List.getElem_cons_zero, List.getElem_cons_succ]); intro w hSw; (try dsimp only at hSw); clear hHeld c0 c1 c2 c3 c4 r0 r1 r2; obtain ⟨z0, z1, z2, z3, z4, z5, z6⟩ := hSw; go_simp
        try simp only [List.getElem_toArray, List.getElem_cons_zero, List.getElem_cons_succ, Act.put, List.setIfInBounds_toArray, List.set_cons_zero, List.set_cons_succ]
        refine wpAnyH_take (i := 14) (v := .bool false) rfl (by kernel_rfl) (by kernel_rfl) (by kernel_rfl) (fun _ _ _ h => h) (Or.inl ⟨by rfl, ?_⟩) (by assumption) ?_
        · (try simp only [List.getElem_toArray, List.getElem_cons_zero, List.getElem_cons_succ]); intro w hSw; (try dsimp only at hSw); clear hHeld c0 c1 c2 c3 c4 r0 r1 r2; obtain ⟨z0, z1, z2, z3, z4, z5, z6⟩ := hSw; go_simp
        try simp only [List.getElem_toArray, List.getElem_cons_zero, List.getElem_cons_succ, Act.put, List.setIfInBounds_toArray, List.set_cons_zero, List.set_cons_succ]
        refine wpAnyH_take (i := 15) (v := .bool false) rfl (by kernel_rfl) (by kernel_rfl) (by kernel_rfl) (fun _ _ _ h => h) (Or.inl ⟨by rfl, ?_⟩) (by assumption) ?_
        · (try simp only [List.getElem_toArray, List.getElem_cons_zero, List.getElem_cons_succ]); intro w hSw; (try dsimp only at hSw); clear hHeld c0 c1 c2 c3 c4 r0 r1 r2; obtain ⟨z0, z1, z2, z3, z4, z5, z6⟩ := hSw; go_simp
        try simp only [List.getElem_toArray, List.getElem_cons_zero, List.getElem_cons_succ, Act.put, List.setIfInBounds_toArray, List.set_cons_zero, List.set_cons_succ]
        refine wpAnyH_take (i := 16) (v := undef) rfl (by kernel_rfl) (by kernel_rfl) (by kernel_rfl) (fun _ _ _ h => h) (Or.inr ⟨by rfl, rfl⟩) (by assumption) ?_
        try simp only [List.getElem_toArray, List.getElem_cons_zero, List.getElem_cons_succ, Act.put, List.setIfInBounds_toArray, List.set_cons_zero, List.set_cons_succ]
        refine wpAnyH_take (i := 17) (v := undef) rfl (by kernel_rfl) (by kernel_rfl) (by kernel_rfl) (fun _ _ _ h => h) (Or.inr ⟨by rfl, rfl⟩) (by assumption) ?_
        try simp only [List.getElem_toArray, List.getElem_cons_zero, List.getElem_cons_succ, Act.put, List.setIfInBounds_toArray, List.set_cons_zero, List.set_cons_succ]
        refine wpAnyH_take (i := 18) (v := undef) rfl (by kernel_rfl) (by kernel_rfl) (by kernel_rfl) (fun _ _ _ h => h) (Or.inr ⟨by rfl, rfl⟩) (by assumption) ?_
        try simp only [List.getElem_toArray, List.getElem_cons_zero, List.getElem_cons_succ, Act.put, List.setIfInBounds_toArray, List.set_cons_zero, List.set_cons_succ]
        refine wpAnyH_take (i := 19) (v := undef) rfl (by kernel_rfl) (by kernel_rfl) (by kernel_rfl) (fun _ _ _ h => h) (Or.inr ⟨by rfl, rfl⟩) (by assumption) ?_
        try simp only [List.getElem_toArray, List.getElem_cons_zero, List.getElem_cons_succ, Act.put, List.setIfInBounds_toArray, List.set_cons_zero, List.set_cons_succ]
        refine wpAnyH_take (i := 20) (v := undef) rfl (by kernel_rfl) (by kernel_rfl) (by kernel_rfl) (fun _ _ _ h => h) (Or.inr ⟨by rfl, rfl⟩) (by assumption) ?_
        try simp only [List.getElem_toArray, List.getElem_cons_zero, List.getElem_cons_succ, Act.put, List.setIfInBounds_toArray, List.set_cons_zero, List.set_cons_succ]
        refine wpAnyH_take (i := 21) (v := .bool false) rfl (by kernel_rfl) (by kernel_rfl) (by kernel_rfl) (fun _ _ _ h => h) (Or.inl ⟨by rfl, ?_⟩) (by assumption) ?_
        · (try simp only [List.getElem_toArray, List.getElem_cons_zero, List.getElem_cons_succ]); intro w hSw; (try dsimp only at hSw); clear hHeld c0 c1 c2 c3 c4 r0 r1 r2; obtain ⟨z0, z1, z2, z3, z4, z5, z6⟩ := hSw; go_simp
        try simp only [List.getElem_toArray, List.getElem_cons_zero, List.getElem_cons_succ, Act.put, List.setIfInBounds_toArray, List.set_cons_zero, List.set_cons_succ]
        refine wpAnyH_ready (rs := [22]) (by kernel_rfl) (by simp) ?_
        refine AllReadyH.cons rfl (fun K hK => ?_) AllReadyH.nil
        go_simp
        refine hK.out _ _ (by refine ⟨?_, ?_, ?_, ?_, ?_, ?_, ?_⟩ <;> go_cell) (fun hHeld2 => ?_)
        clear hK K
        refine wpAnyH_take (i := 23) (v := .bool false) rfl (by kernel_rfl) (by kernel_rfl) (by kernel_rfl) (fun _ _ _ h => h) (Or.inl ⟨by rfl, ?_⟩) (by assumption) ?_
        · (try simp only [List.getElem_toArray, List.getElem_cons_zero, List.getElem_cons_succ]); intro w hSw; clear hHeld hHeld2 hSw c0 c1 c2 c3 c4 r0 r1 r2; go_simp
        try simp only [List.getElem_toArray, List.getElem_cons_zero, List.getElem_cons_succ, Act.put, List.setIfInBounds_toArray, List.set_cons_zero, List.set_cons_succ]
        refine wpAnyH_done (by kernel_rfl) ?_ _
        clear hHeld hHeld2
        go_wp2_with fail
        have hbs := (below_set5 (b := w.heap.size) HZ.out.2.2.2.1 (Nat.le_refl _) ⟨op, rd, rs1, rs2, im⟩).drew
        have hld := I5.load (HZ.out.1.set5 ⟨op, rd, rs1, rs2, im⟩).drew
        unfold W.set5 at hbs hld
        refine bodyPost_ret (results_c1u (by rfl) _ (by rfl) hld) rfl ⟨rfl, ?_⟩
        exact hbs
end Go.Proofs.YtlfnddmncbkjaacDoor.W
