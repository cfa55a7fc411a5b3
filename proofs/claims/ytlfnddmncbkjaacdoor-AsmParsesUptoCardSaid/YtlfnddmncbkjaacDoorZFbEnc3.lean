/- What is read out of a word is an instruction. No program in sight. -/
import Derived.Test.YtlfnddmncbkjaacDoorZFbEnc2
namespace Go.Proofs.YtlfnddmncbkjaacDoor.Fb
set_option linter.unusedVariables false
set_option linter.unusedSimpArgs false
open Go.RowKit
theorem immU_b (w : Int) : -2147483648 ≤ immU w ∧ immU w ≤ 2147483647 ∧ immU w % 4096 = 0 := by unfold immU wrap32; omega
theorem immJ_b (w : Int) : -1048576 ≤ immJ w ∧ immJ w ≤ 1048574 ∧ immJ w % 2 = 0 := by unfold immJ sgn; split <;> omega
theorem immI_b (w : Int) : -2048 ≤ immI w ∧ immI w ≤ 2047 := by unfold immI sgn; split <;> omega
theorem immB_b (w : Int) : -4096 ≤ immB w ∧ immB w ≤ 4094 ∧ immB w % 2 = 0 := by unfold immB sgn; split <;> omega
theorem immS_b (w : Int) : -2048 ≤ immS w ∧ immS w ≤ 2047 := by unfold immS sgn; split <;> omega
def I32 (x : Int) : Prop := -2147483648 ≤ x ∧ x ≤ 2147483647
theorem dec_is (w : Int) (i : InsD) (h : dec w = some i) : isS i = true ∧ I32 i.imm := by
  unfold dec at h
  cases hd : decOp w with
  | none => rw [hd] at h; cases h
  | some op =>
    rw [hd] at h
    injection h with h
    have hk := decOp_known hd
    have hm := decOp_match hd
    clear hd
    have hU := immU_b w
    have hJ := immJ_b w
    have hI := immI_b w
    have hB := immB_b w
    have hS := immS_b w
    have d1 : 0 ≤ w / 128 % 32 ∧ w / 128 % 32 ≤ 31 := by omega
    have d2 : 0 ≤ w / 32768 % 32 ∧ w / 32768 % 32 ≤ 31 := by omega
    have d3 : 0 ≤ w / 1048576 % 32 ∧ w / 1048576 % 32 ≤ 31 := by omega
    have d4 : 0 ≤ w / 33554432 % 4 ∧ w / 33554432 % 4 ≤ 3 := by omega
    have hc : op = 1 ∨ op = 2 ∨ op = 3 ∨ op = 4 ∨ op = 5 ∨ op = 6 ∨ op = 7 ∨ op = 8 ∨ op = 9 ∨ op = 10 ∨ op = 11 ∨ op = 12 ∨ op = 13 ∨ op = 14 ∨ op = 15 ∨ op = 16 ∨ op = 17 ∨ op = 18 ∨ op = 19 ∨ op = 20 ∨ op = 21 ∨ op = 22 ∨ op = 23 ∨ op = 24 ∨ op = 25 ∨ op = 26 ∨ op = 27 ∨ op = 28 ∨ op = 29 ∨ op = 30 ∨ op = 31 ∨ op = 32 ∨ op = 33 ∨ op = 34 ∨ op = 35 ∨ op = 36 ∨ op = 37 ∨ op = 38 ∨ op = 39 ∨ op = 40 ∨ op = 41 ∨ op = 42 ∨ op = 43 ∨ op = 44 ∨ op = 45 ∨ op = 46 ∨ op = 47 ∨ op = 48 ∨ op = 49 ∨ op = 50 ∨ op = 51 ∨ op = 52 ∨ op = 53 ∨ op = 54 ∨ op = 55 ∨ op = 56 ∨ op = 57 ∨ op = 58 ∨ op = 59 := by omega
    rcases hc with rfl | rfl | rfl | rfl | rfl | rfl | rfl | rfl | rfl | rfl | rfl | rfl | rfl | rfl | rfl | rfl | rfl | rfl | rfl | rfl | rfl | rfl | rfl | rfl | rfl | rfl | rfl | rfl | rfl | rfl | rfl | rfl | rfl | rfl | rfl | rfl | rfl | rfl | rfl | rfl | rfl | rfl | rfl | rfl | rfl | rfl | rfl | rfl | rfl | rfl | rfl | rfl | rfl | rfl | rfl | rfl | rfl | rfl | rfl
    · have e : i = ⟨1, w / 128 % 32, 0, 0, immU w⟩ := h.symm
      subst e
      refine ⟨?_, by unfold I32; dsimp only; omega⟩
      clear hm h
      unfold isS
      rw [decide_eq_true (by dsimp only; omega), Bool.true_and]
      dsimp only
      repeat (first | (rw [if_pos (by first | decide | omega)]; done) | rw [if_pos (by first | decide | omega)] | rw [if_neg (by first | decide | omega)])
      all_goals (first | (rw [decide_eq_true_eq]; done) | (rw [decide_eq_true_eq]; omega))
    · have e : i = ⟨2, w / 128 % 32, 0, 0, immU w⟩ := h.symm
      subst e
      refine ⟨?_, by unfold I32; dsimp only; omega⟩
      clear hm h
      unfold isS
      rw [decide_eq_true (by dsimp only; omega), Bool.true_and]
      dsimp only
      repeat (first | (rw [if_pos (by first | decide | omega)]; done) | rw [if_pos (by first | decide | omega)] | rw [if_neg (by first | decide | omega)])
      all_goals (first | (rw [decide_eq_true_eq]; done) | (rw [decide_eq_true_eq]; omega))
    · have e : i = ⟨3, w / 128 % 32, 0, 0, immJ w⟩ := h.symm
      subst e
      refine ⟨?_, by unfold I32; dsimp only; omega⟩
      clear hm h
      unfold isS
      rw [decide_eq_true (by dsimp only; omega), Bool.true_and]
      dsimp only
      repeat (first | (rw [if_pos (by first | decide | omega)]; done) | rw [if_pos (by first | decide | omega)] | rw [if_neg (by first | decide | omega)])
      all_goals (first | (rw [decide_eq_true_eq]; done) | (rw [decide_eq_true_eq]; omega))
    · have e : i = ⟨4, w / 128 % 32, w / 32768 % 32, 0, immI w⟩ := h.symm
      subst e
      refine ⟨?_, by unfold I32; dsimp only; omega⟩
      clear hm h
      unfold isS
      rw [decide_eq_true (by dsimp only; omega), Bool.true_and]
      dsimp only
      repeat (first | (rw [if_pos (by first | decide | omega)]; done) | rw [if_pos (by first | decide | omega)] | rw [if_neg (by first | decide | omega)])
      all_goals (first | (rw [decide_eq_true_eq]; done) | (rw [decide_eq_true_eq]; omega))
    · have e : i = ⟨5, 0, w / 32768 % 32, w / 1048576 % 32, immB w⟩ := h.symm
      subst e
      refine ⟨?_, by unfold I32; dsimp only; omega⟩
      clear hm h
      unfold isS
      rw [decide_eq_true (by dsimp only; omega), Bool.true_and]
      dsimp only
      repeat (first | (rw [if_pos (by first | decide | omega)]; done) | rw [if_pos (by first | decide | omega)] | rw [if_neg (by first | decide | omega)])
      all_goals (first | (rw [decide_eq_true_eq]; done) | (rw [decide_eq_true_eq]; omega))
    · have e : i = ⟨6, 0, w / 32768 % 32, w / 1048576 % 32, immB w⟩ := h.symm
      subst e
      refine ⟨?_, by unfold I32; dsimp only; omega⟩
      clear hm h
      unfold isS
      rw [decide_eq_true (by dsimp only; omega), Bool.true_and]
      dsimp only
      repeat (first | (rw [if_pos (by first | decide | omega)]; done) | rw [if_pos (by first | decide | omega)] | rw [if_neg (by first | decide | omega)])
      all_goals (first | (rw [decide_eq_true_eq]; done) | (rw [decide_eq_true_eq]; omega))
    · have e : i = ⟨7, 0, w / 32768 % 32, w / 1048576 % 32, immB w⟩ := h.symm
      subst e
      refine ⟨?_, by unfold I32; dsimp only; omega⟩
      clear hm h
      unfold isS
      rw [decide_eq_true (by dsimp only; omega), Bool.true_and]
      dsimp only
      repeat (first | (rw [if_pos (by first | decide | omega)]; done) | rw [if_pos (by first | decide | omega)] | rw [if_neg (by first | decide | omega)])
      all_goals (first | (rw [decide_eq_true_eq]; done) | (rw [decide_eq_true_eq]; omega))
    · have e : i = ⟨8, 0, w / 32768 % 32, w / 1048576 % 32, immB w⟩ := h.symm
      subst e
      refine ⟨?_, by unfold I32; dsimp only; omega⟩
      clear hm h
      unfold isS
      rw [decide_eq_true (by dsimp only; omega), Bool.true_and]
      dsimp only
      repeat (first | (rw [if_pos (by first | decide | omega)]; done) | rw [if_pos (by first | decide | omega)] | rw [if_neg (by first | decide | omega)])
      all_goals (first | (rw [decide_eq_true_eq]; done) | (rw [decide_eq_true_eq]; omega))
    · have e : i = ⟨9, 0, w / 32768 % 32, w / 1048576 % 32, immB w⟩ := h.symm
      subst e
      refine ⟨?_, by unfold I32; dsimp only; omega⟩
      clear hm h
      unfold isS
      rw [decide_eq_true (by dsimp only; omega), Bool.true_and]
      dsimp only
      repeat (first | (rw [if_pos (by first | decide | omega)]; done) | rw [if_pos (by first | decide | omega)] | rw [if_neg (by first | decide | omega)])
      all_goals (first | (rw [decide_eq_true_eq]; done) | (rw [decide_eq_true_eq]; omega))
    · have e : i = ⟨10, 0, w / 32768 % 32, w / 1048576 % 32, immB w⟩ := h.symm
      subst e
      refine ⟨?_, by unfold I32; dsimp only; omega⟩
      clear hm h
      unfold isS
      rw [decide_eq_true (by dsimp only; omega), Bool.true_and]
      dsimp only
      repeat (first | (rw [if_pos (by first | decide | omega)]; done) | rw [if_pos (by first | decide | omega)] | rw [if_neg (by first | decide | omega)])
      all_goals (first | (rw [decide_eq_true_eq]; done) | (rw [decide_eq_true_eq]; omega))
    · have e : i = ⟨11, w / 128 % 32, w / 32768 % 32, 0, immI w⟩ := h.symm
      subst e
      refine ⟨?_, by unfold I32; dsimp only; omega⟩
      clear hm h
      unfold isS
      rw [decide_eq_true (by dsimp only; omega), Bool.true_and]
      dsimp only
      repeat (first | (rw [if_pos (by first | decide | omega)]; done) | rw [if_pos (by first | decide | omega)] | rw [if_neg (by first | decide | omega)])
      all_goals (first | (rw [decide_eq_true_eq]; done) | (rw [decide_eq_true_eq]; omega))
    · have e : i = ⟨12, w / 128 % 32, w / 32768 % 32, 0, immI w⟩ := h.symm
      subst e
      refine ⟨?_, by unfold I32; dsimp only; omega⟩
      clear hm h
      unfold isS
      rw [decide_eq_true (by dsimp only; omega), Bool.true_and]
      dsimp only
      repeat (first | (rw [if_pos (by first | decide | omega)]; done) | rw [if_pos (by first | decide | omega)] | rw [if_neg (by first | decide | omega)])
      all_goals (first | (rw [decide_eq_true_eq]; done) | (rw [decide_eq_true_eq]; omega))
    · have e : i = ⟨13, w / 128 % 32, w / 32768 % 32, 0, immI w⟩ := h.symm
      subst e
      refine ⟨?_, by unfold I32; dsimp only; omega⟩
      clear hm h
      unfold isS
      rw [decide_eq_true (by dsimp only; omega), Bool.true_and]
      dsimp only
      repeat (first | (rw [if_pos (by first | decide | omega)]; done) | rw [if_pos (by first | decide | omega)] | rw [if_neg (by first | decide | omega)])
      all_goals (first | (rw [decide_eq_true_eq]; done) | (rw [decide_eq_true_eq]; omega))
    · have e : i = ⟨14, w / 128 % 32, w / 32768 % 32, 0, immI w⟩ := h.symm
      subst e
      refine ⟨?_, by unfold I32; dsimp only; omega⟩
      clear hm h
      unfold isS
      rw [decide_eq_true (by dsimp only; omega), Bool.true_and]
      dsimp only
      repeat (first | (rw [if_pos (by first | decide | omega)]; done) | rw [if_pos (by first | decide | omega)] | rw [if_neg (by first | decide | omega)])
      all_goals (first | (rw [decide_eq_true_eq]; done) | (rw [decide_eq_true_eq]; omega))
    · have e : i = ⟨15, w / 128 % 32, w / 32768 % 32, 0, immI w⟩ := h.symm
      subst e
      refine ⟨?_, by unfold I32; dsimp only; omega⟩
      clear hm h
      unfold isS
      rw [decide_eq_true (by dsimp only; omega), Bool.true_and]
      dsimp only
      repeat (first | (rw [if_pos (by first | decide | omega)]; done) | rw [if_pos (by first | decide | omega)] | rw [if_neg (by first | decide | omega)])
      all_goals (first | (rw [decide_eq_true_eq]; done) | (rw [decide_eq_true_eq]; omega))
    · have e : i = ⟨16, 0, w / 32768 % 32, w / 1048576 % 32, immS w⟩ := h.symm
      subst e
      refine ⟨?_, by unfold I32; dsimp only; omega⟩
      clear hm h
      unfold isS
      rw [decide_eq_true (by dsimp only; omega), Bool.true_and]
      dsimp only
      repeat (first | (rw [if_pos (by first | decide | omega)]; done) | rw [if_pos (by first | decide | omega)] | rw [if_neg (by first | decide | omega)])
      all_goals (first | (rw [decide_eq_true_eq]; done) | (rw [decide_eq_true_eq]; omega))
    · have e : i = ⟨17, 0, w / 32768 % 32, w / 1048576 % 32, immS w⟩ := h.symm
      subst e
      refine ⟨?_, by unfold I32; dsimp only; omega⟩
      clear hm h
      unfold isS
      rw [decide_eq_true (by dsimp only; omega), Bool.true_and]
      dsimp only
      repeat (first | (rw [if_pos (by first | decide | omega)]; done) | rw [if_pos (by first | decide | omega)] | rw [if_neg (by first | decide | omega)])
      all_goals (first | (rw [decide_eq_true_eq]; done) | (rw [decide_eq_true_eq]; omega))
    · have e : i = ⟨18, 0, w / 32768 % 32, w / 1048576 % 32, immS w⟩ := h.symm
      subst e
      refine ⟨?_, by unfold I32; dsimp only; omega⟩
      clear hm h
      unfold isS
      rw [decide_eq_true (by dsimp only; omega), Bool.true_and]
      dsimp only
      repeat (first | (rw [if_pos (by first | decide | omega)]; done) | rw [if_pos (by first | decide | omega)] | rw [if_neg (by first | decide | omega)])
      all_goals (first | (rw [decide_eq_true_eq]; done) | (rw [decide_eq_true_eq]; omega))
    · have e : i = ⟨19, w / 128 % 32, w / 32768 % 32, 0, immI w⟩ := h.symm
      subst e
      refine ⟨?_, by unfold I32; dsimp only; omega⟩
      clear hm h
      unfold isS
      rw [decide_eq_true (by dsimp only; omega), Bool.true_and]
      dsimp only
      repeat (first | (rw [if_pos (by first | decide | omega)]; done) | rw [if_pos (by first | decide | omega)] | rw [if_neg (by first | decide | omega)])
      all_goals (first | (rw [decide_eq_true_eq]; done) | (rw [decide_eq_true_eq]; omega))
    · have e : i = ⟨20, w / 128 % 32, w / 32768 % 32, 0, immI w⟩ := h.symm
      subst e
      refine ⟨?_, by unfold I32; dsimp only; omega⟩
      clear hm h
      unfold isS
      rw [decide_eq_true (by dsimp only; omega), Bool.true_and]
      dsimp only
      repeat (first | (rw [if_pos (by first | decide | omega)]; done) | rw [if_pos (by first | decide | omega)] | rw [if_neg (by first | decide | omega)])
      all_goals (first | (rw [decide_eq_true_eq]; done) | (rw [decide_eq_true_eq]; omega))
    · have e : i = ⟨21, w / 128 % 32, w / 32768 % 32, 0, immI w⟩ := h.symm
      subst e
      refine ⟨?_, by unfold I32; dsimp only; omega⟩
      clear hm h
      unfold isS
      rw [decide_eq_true (by dsimp only; omega), Bool.true_and]
      dsimp only
      repeat (first | (rw [if_pos (by first | decide | omega)]; done) | rw [if_pos (by first | decide | omega)] | rw [if_neg (by first | decide | omega)])
      all_goals (first | (rw [decide_eq_true_eq]; done) | (rw [decide_eq_true_eq]; omega))
    · have e : i = ⟨22, w / 128 % 32, w / 32768 % 32, 0, immI w⟩ := h.symm
      subst e
      refine ⟨?_, by unfold I32; dsimp only; omega⟩
      clear hm h
      unfold isS
      rw [decide_eq_true (by dsimp only; omega), Bool.true_and]
      dsimp only
      repeat (first | (rw [if_pos (by first | decide | omega)]; done) | rw [if_pos (by first | decide | omega)] | rw [if_neg (by first | decide | omega)])
      all_goals (first | (rw [decide_eq_true_eq]; done) | (rw [decide_eq_true_eq]; omega))
    · have e : i = ⟨23, w / 128 % 32, w / 32768 % 32, 0, immI w⟩ := h.symm
      subst e
      refine ⟨?_, by unfold I32; dsimp only; omega⟩
      clear hm h
      unfold isS
      rw [decide_eq_true (by dsimp only; omega), Bool.true_and]
      dsimp only
      repeat (first | (rw [if_pos (by first | decide | omega)]; done) | rw [if_pos (by first | decide | omega)] | rw [if_neg (by first | decide | omega)])
      all_goals (first | (rw [decide_eq_true_eq]; done) | (rw [decide_eq_true_eq]; omega))
    · have e : i = ⟨24, w / 128 % 32, w / 32768 % 32, 0, immI w⟩ := h.symm
      subst e
      refine ⟨?_, by unfold I32; dsimp only; omega⟩
      clear hm h
      unfold isS
      rw [decide_eq_true (by dsimp only; omega), Bool.true_and]
      dsimp only
      repeat (first | (rw [if_pos (by first | decide | omega)]; done) | rw [if_pos (by first | decide | omega)] | rw [if_neg (by first | decide | omega)])
      all_goals (first | (rw [decide_eq_true_eq]; done) | (rw [decide_eq_true_eq]; omega))
    · have e : i = ⟨25, w / 128 % 32, w / 32768 % 32, 0, w / 1048576 % 32⟩ := h.symm
      subst e
      refine ⟨?_, by unfold I32; dsimp only; omega⟩
      clear hm h
      unfold isS
      rw [decide_eq_true (by dsimp only; omega), Bool.true_and]
      dsimp only
      repeat (first | (rw [if_pos (by first | decide | omega)]; done) | rw [if_pos (by first | decide | omega)] | rw [if_neg (by first | decide | omega)])
      all_goals (first | (rw [decide_eq_true_eq]; done) | (rw [decide_eq_true_eq]; omega))
    · have e : i = ⟨26, w / 128 % 32, w / 32768 % 32, 0, w / 1048576 % 32⟩ := h.symm
      subst e
      refine ⟨?_, by unfold I32; dsimp only; omega⟩
      clear hm h
      unfold isS
      rw [decide_eq_true (by dsimp only; omega), Bool.true_and]
      dsimp only
      repeat (first | (rw [if_pos (by first | decide | omega)]; done) | rw [if_pos (by first | decide | omega)] | rw [if_neg (by first | decide | omega)])
      all_goals (first | (rw [decide_eq_true_eq]; done) | (rw [decide_eq_true_eq]; omega))
    · have e : i = ⟨27, w / 128 % 32, w / 32768 % 32, 0, w / 1048576 % 32⟩ := h.symm
      subst e
      refine ⟨?_, by unfold I32; dsimp only; omega⟩
      clear hm h
      unfold isS
      rw [decide_eq_true (by dsimp only; omega), Bool.true_and]
      dsimp only
      repeat (first | (rw [if_pos (by first | decide | omega)]; done) | rw [if_pos (by first | decide | omega)] | rw [if_neg (by first | decide | omega)])
      all_goals (first | (rw [decide_eq_true_eq]; done) | (rw [decide_eq_true_eq]; omega))
    · have e : i = ⟨28, w / 128 % 32, w / 32768 % 32, w / 1048576 % 32, 0⟩ := h.symm
      subst e
      refine ⟨?_, by unfold I32; dsimp only; omega⟩
      clear hm h
      unfold isS
      rw [decide_eq_true (by dsimp only; omega), Bool.true_and]
      dsimp only
      repeat (first | (rw [if_pos (by first | decide | omega)]; done) | rw [if_pos (by first | decide | omega)] | rw [if_neg (by first | decide | omega)])
      all_goals (first | (rw [decide_eq_true_eq]; done) | (rw [decide_eq_true_eq]; omega))
    · have e : i = ⟨29, w / 128 % 32, w / 32768 % 32, w / 1048576 % 32, 0⟩ := h.symm
      subst e
      refine ⟨?_, by unfold I32; dsimp only; omega⟩
      clear hm h
      unfold isS
      rw [decide_eq_true (by dsimp only; omega), Bool.true_and]
      dsimp only
      repeat (first | (rw [if_pos (by first | decide | omega)]; done) | rw [if_pos (by first | decide | omega)] | rw [if_neg (by first | decide | omega)])
      all_goals (first | (rw [decide_eq_true_eq]; done) | (rw [decide_eq_true_eq]; omega))
    · have e : i = ⟨30, w / 128 % 32, w / 32768 % 32, w / 1048576 % 32, 0⟩ := h.symm
      subst e
      refine ⟨?_, by unfold I32; dsimp only; omega⟩
      clear hm h
      unfold isS
      rw [decide_eq_true (by dsimp only; omega), Bool.true_and]
      dsimp only
      repeat (first | (rw [if_pos (by first | decide | omega)]; done) | rw [if_pos (by first | decide | omega)] | rw [if_neg (by first | decide | omega)])
      all_goals (first | (rw [decide_eq_true_eq]; done) | (rw [decide_eq_true_eq]; omega))
    · have e : i = ⟨31, w / 128 % 32, w / 32768 % 32, w / 1048576 % 32, 0⟩ := h.symm
      subst e
      refine ⟨?_, by unfold I32; dsimp only; omega⟩
      clear hm h
      unfold isS
      rw [decide_eq_true (by dsimp only; omega), Bool.true_and]
      dsimp only
      repeat (first | (rw [if_pos (by first | decide | omega)]; done) | rw [if_pos (by first | decide | omega)] | rw [if_neg (by first | decide | omega)])
      all_goals (first | (rw [decide_eq_true_eq]; done) | (rw [decide_eq_true_eq]; omega))
    · have e : i = ⟨32, w / 128 % 32, w / 32768 % 32, w / 1048576 % 32, 0⟩ := h.symm
      subst e
      refine ⟨?_, by unfold I32; dsimp only; omega⟩
      clear hm h
      unfold isS
      rw [decide_eq_true (by dsimp only; omega), Bool.true_and]
      dsimp only
      repeat (first | (rw [if_pos (by first | decide | omega)]; done) | rw [if_pos (by first | decide | omega)] | rw [if_neg (by first | decide | omega)])
      all_goals (first | (rw [decide_eq_true_eq]; done) | (rw [decide_eq_true_eq]; omega))
    · have e : i = ⟨33, w / 128 % 32, w / 32768 % 32, w / 1048576 % 32, 0⟩ := h.symm
      subst e
      refine ⟨?_, by unfold I32; dsimp only; omega⟩
      clear hm h
      unfold isS
      rw [decide_eq_true (by dsimp only; omega), Bool.true_and]
      dsimp only
      repeat (first | (rw [if_pos (by first | decide | omega)]; done) | rw [if_pos (by first | decide | omega)] | rw [if_neg (by first | decide | omega)])
      all_goals (first | (rw [decide_eq_true_eq]; done) | (rw [decide_eq_true_eq]; omega))
    · have e : i = ⟨34, w / 128 % 32, w / 32768 % 32, w / 1048576 % 32, 0⟩ := h.symm
      subst e
      refine ⟨?_, by unfold I32; dsimp only; omega⟩
      clear hm h
      unfold isS
      rw [decide_eq_true (by dsimp only; omega), Bool.true_and]
      dsimp only
      repeat (first | (rw [if_pos (by first | decide | omega)]; done) | rw [if_pos (by first | decide | omega)] | rw [if_neg (by first | decide | omega)])
      all_goals (first | (rw [decide_eq_true_eq]; done) | (rw [decide_eq_true_eq]; omega))
    · have e : i = ⟨35, w / 128 % 32, w / 32768 % 32, w / 1048576 % 32, 0⟩ := h.symm
      subst e
      refine ⟨?_, by unfold I32; dsimp only; omega⟩
      clear hm h
      unfold isS
      rw [decide_eq_true (by dsimp only; omega), Bool.true_and]
      dsimp only
      repeat (first | (rw [if_pos (by first | decide | omega)]; done) | rw [if_pos (by first | decide | omega)] | rw [if_neg (by first | decide | omega)])
      all_goals (first | (rw [decide_eq_true_eq]; done) | (rw [decide_eq_true_eq]; omega))
    · have e : i = ⟨36, w / 128 % 32, w / 32768 % 32, w / 1048576 % 32, 0⟩ := h.symm
      subst e
      refine ⟨?_, by unfold I32; dsimp only; omega⟩
      clear hm h
      unfold isS
      rw [decide_eq_true (by dsimp only; omega), Bool.true_and]
      dsimp only
      repeat (first | (rw [if_pos (by first | decide | omega)]; done) | rw [if_pos (by first | decide | omega)] | rw [if_neg (by first | decide | omega)])
      all_goals (first | (rw [decide_eq_true_eq]; done) | (rw [decide_eq_true_eq]; omega))
    · have e : i = ⟨37, w / 128 % 32, w / 32768 % 32, w / 1048576 % 32, 0⟩ := h.symm
      subst e
      refine ⟨?_, by unfold I32; dsimp only; omega⟩
      clear hm h
      unfold isS
      rw [decide_eq_true (by dsimp only; omega), Bool.true_and]
      dsimp only
      repeat (first | (rw [if_pos (by first | decide | omega)]; done) | rw [if_pos (by first | decide | omega)] | rw [if_neg (by first | decide | omega)])
      all_goals (first | (rw [decide_eq_true_eq]; done) | (rw [decide_eq_true_eq]; omega))
    · have e : i = ⟨38, w / 128 % 32, w / 32768 % 32, w / 1048576 % 32, 0⟩ := h.symm
      subst e
      refine ⟨?_, by unfold I32; dsimp only; omega⟩
      clear hm h
      unfold isS
      rw [decide_eq_true (by dsimp only; omega), Bool.true_and]
      dsimp only
      repeat (first | (rw [if_pos (by first | decide | omega)]; done) | rw [if_pos (by first | decide | omega)] | rw [if_neg (by first | decide | omega)])
      all_goals (first | (rw [decide_eq_true_eq]; done) | (rw [decide_eq_true_eq]; omega))
    · have e : i = ⟨39, w / 128 % 32, w / 32768 % 32, w / 1048576 % 32, 0⟩ := h.symm
      subst e
      refine ⟨?_, by unfold I32; dsimp only; omega⟩
      clear hm h
      unfold isS
      rw [decide_eq_true (by dsimp only; omega), Bool.true_and]
      dsimp only
      repeat (first | (rw [if_pos (by first | decide | omega)]; done) | rw [if_pos (by first | decide | omega)] | rw [if_neg (by first | decide | omega)])
      all_goals (first | (rw [decide_eq_true_eq]; done) | (rw [decide_eq_true_eq]; omega))
    · have e : i = ⟨40, w / 128 % 32, w / 32768 % 32, w / 1048576 % 32, 0⟩ := h.symm
      subst e
      refine ⟨?_, by unfold I32; dsimp only; omega⟩
      clear hm h
      unfold isS
      rw [decide_eq_true (by dsimp only; omega), Bool.true_and]
      dsimp only
      repeat (first | (rw [if_pos (by first | decide | omega)]; done) | rw [if_pos (by first | decide | omega)] | rw [if_neg (by first | decide | omega)])
      all_goals (first | (rw [decide_eq_true_eq]; done) | (rw [decide_eq_true_eq]; omega))
    · have e : i = ⟨41, w / 128 % 32, w / 32768 % 32, w / 1048576 % 32, 0⟩ := h.symm
      subst e
      refine ⟨?_, by unfold I32; dsimp only; omega⟩
      clear hm h
      unfold isS
      rw [decide_eq_true (by dsimp only; omega), Bool.true_and]
      dsimp only
      repeat (first | (rw [if_pos (by first | decide | omega)]; done) | rw [if_pos (by first | decide | omega)] | rw [if_neg (by first | decide | omega)])
      all_goals (first | (rw [decide_eq_true_eq]; done) | (rw [decide_eq_true_eq]; omega))
    · have e : i = ⟨42, w / 128 % 32, w / 32768 % 32, w / 1048576 % 32, 0⟩ := h.symm
      subst e
      refine ⟨?_, by unfold I32; dsimp only; omega⟩
      clear hm h
      unfold isS
      rw [decide_eq_true (by dsimp only; omega), Bool.true_and]
      dsimp only
      repeat (first | (rw [if_pos (by first | decide | omega)]; done) | rw [if_pos (by first | decide | omega)] | rw [if_neg (by first | decide | omega)])
      all_goals (first | (rw [decide_eq_true_eq]; done) | (rw [decide_eq_true_eq]; omega))
    · have e : i = ⟨43, w / 128 % 32, w / 32768 % 32, w / 1048576 % 32, 0⟩ := h.symm
      subst e
      refine ⟨?_, by unfold I32; dsimp only; omega⟩
      clear hm h
      unfold isS
      rw [decide_eq_true (by dsimp only; omega), Bool.true_and]
      dsimp only
      repeat (first | (rw [if_pos (by first | decide | omega)]; done) | rw [if_pos (by first | decide | omega)] | rw [if_neg (by first | decide | omega)])
      all_goals (first | (rw [decide_eq_true_eq]; done) | (rw [decide_eq_true_eq]; omega))
    · have e : i = ⟨44, w / 128 % 32, w / 32768 % 32, w / 1048576 % 32, 0⟩ := h.symm
      subst e
      refine ⟨?_, by unfold I32; dsimp only; omega⟩
      clear hm h
      unfold isS
      rw [decide_eq_true (by dsimp only; omega), Bool.true_and]
      dsimp only
      repeat (first | (rw [if_pos (by first | decide | omega)]; done) | rw [if_pos (by first | decide | omega)] | rw [if_neg (by first | decide | omega)])
      all_goals (first | (rw [decide_eq_true_eq]; done) | (rw [decide_eq_true_eq]; omega))
    · have e : i = ⟨45, w / 128 % 32, w / 32768 % 32, w / 1048576 % 32, 0⟩ := h.symm
      subst e
      refine ⟨?_, by unfold I32; dsimp only; omega⟩
      clear hm h
      unfold isS
      rw [decide_eq_true (by dsimp only; omega), Bool.true_and]
      dsimp only
      repeat (first | (rw [if_pos (by first | decide | omega)]; done) | rw [if_pos (by first | decide | omega)] | rw [if_neg (by first | decide | omega)])
      all_goals (first | (rw [decide_eq_true_eq]; done) | (rw [decide_eq_true_eq]; omega))
    · have e : i = ⟨46, w / 128 % 32, w / 32768 % 32, w / 1048576 % 32, w / 33554432 % 4⟩ := h.symm
      subst e
      refine ⟨?_, by unfold I32; dsimp only; omega⟩
      rw [m_46, Bool.and_eq_true] at hm
      have hz : w / 1048576 % 32 = 0 := by simpa using hm.2
      clear hm h
      unfold isS
      rw [decide_eq_true (by dsimp only; omega), Bool.true_and]
      dsimp only
      repeat (first | (rw [if_pos (by first | decide | omega)]; done) | rw [if_pos (by first | decide | omega)] | rw [if_neg (by first | decide | omega)])
      all_goals (first | (rw [decide_eq_true_eq]; done) | (rw [decide_eq_true_eq]; omega))
    · have e : i = ⟨47, w / 128 % 32, w / 32768 % 32, w / 1048576 % 32, w / 33554432 % 4⟩ := h.symm
      subst e
      refine ⟨?_, by unfold I32; dsimp only; omega⟩
      clear hm h
      unfold isS
      rw [decide_eq_true (by dsimp only; omega), Bool.true_and]
      dsimp only
      repeat (first | (rw [if_pos (by first | decide | omega)]; done) | rw [if_pos (by first | decide | omega)] | rw [if_neg (by first | decide | omega)])
      all_goals (first | (rw [decide_eq_true_eq]; done) | (rw [decide_eq_true_eq]; omega))
    · have e : i = ⟨48, w / 128 % 32, w / 32768 % 32, w / 1048576 % 32, w / 33554432 % 4⟩ := h.symm
      subst e
      refine ⟨?_, by unfold I32; dsimp only; omega⟩
      clear hm h
      unfold isS
      rw [decide_eq_true (by dsimp only; omega), Bool.true_and]
      dsimp only
      repeat (first | (rw [if_pos (by first | decide | omega)]; done) | rw [if_pos (by first | decide | omega)] | rw [if_neg (by first | decide | omega)])
      all_goals (first | (rw [decide_eq_true_eq]; done) | (rw [decide_eq_true_eq]; omega))
    · have e : i = ⟨49, w / 128 % 32, w / 32768 % 32, w / 1048576 % 32, w / 33554432 % 4⟩ := h.symm
      subst e
      refine ⟨?_, by unfold I32; dsimp only; omega⟩
      clear hm h
      unfold isS
      rw [decide_eq_true (by dsimp only; omega), Bool.true_and]
      dsimp only
      repeat (first | (rw [if_pos (by first | decide | omega)]; done) | rw [if_pos (by first | decide | omega)] | rw [if_neg (by first | decide | omega)])
      all_goals (first | (rw [decide_eq_true_eq]; done) | (rw [decide_eq_true_eq]; omega))
    · have e : i = ⟨50, w / 128 % 32, w / 32768 % 32, w / 1048576 % 32, w / 33554432 % 4⟩ := h.symm
      subst e
      refine ⟨?_, by unfold I32; dsimp only; omega⟩
      clear hm h
      unfold isS
      rw [decide_eq_true (by dsimp only; omega), Bool.true_and]
      dsimp only
      repeat (first | (rw [if_pos (by first | decide | omega)]; done) | rw [if_pos (by first | decide | omega)] | rw [if_neg (by first | decide | omega)])
      all_goals (first | (rw [decide_eq_true_eq]; done) | (rw [decide_eq_true_eq]; omega))
    · have e : i = ⟨51, w / 128 % 32, w / 32768 % 32, w / 1048576 % 32, w / 33554432 % 4⟩ := h.symm
      subst e
      refine ⟨?_, by unfold I32; dsimp only; omega⟩
      clear hm h
      unfold isS
      rw [decide_eq_true (by dsimp only; omega), Bool.true_and]
      dsimp only
      repeat (first | (rw [if_pos (by first | decide | omega)]; done) | rw [if_pos (by first | decide | omega)] | rw [if_neg (by first | decide | omega)])
      all_goals (first | (rw [decide_eq_true_eq]; done) | (rw [decide_eq_true_eq]; omega))
    · have e : i = ⟨52, w / 128 % 32, w / 32768 % 32, w / 1048576 % 32, w / 33554432 % 4⟩ := h.symm
      subst e
      refine ⟨?_, by unfold I32; dsimp only; omega⟩
      clear hm h
      unfold isS
      rw [decide_eq_true (by dsimp only; omega), Bool.true_and]
      dsimp only
      repeat (first | (rw [if_pos (by first | decide | omega)]; done) | rw [if_pos (by first | decide | omega)] | rw [if_neg (by first | decide | omega)])
      all_goals (first | (rw [decide_eq_true_eq]; done) | (rw [decide_eq_true_eq]; omega))
    · have e : i = ⟨53, w / 128 % 32, w / 32768 % 32, w / 1048576 % 32, w / 33554432 % 4⟩ := h.symm
      subst e
      refine ⟨?_, by unfold I32; dsimp only; omega⟩
      clear hm h
      unfold isS
      rw [decide_eq_true (by dsimp only; omega), Bool.true_and]
      dsimp only
      repeat (first | (rw [if_pos (by first | decide | omega)]; done) | rw [if_pos (by first | decide | omega)] | rw [if_neg (by first | decide | omega)])
      all_goals (first | (rw [decide_eq_true_eq]; done) | (rw [decide_eq_true_eq]; omega))
    · have e : i = ⟨54, w / 128 % 32, w / 32768 % 32, w / 1048576 % 32, w / 33554432 % 4⟩ := h.symm
      subst e
      refine ⟨?_, by unfold I32; dsimp only; omega⟩
      clear hm h
      unfold isS
      rw [decide_eq_true (by dsimp only; omega), Bool.true_and]
      dsimp only
      repeat (first | (rw [if_pos (by first | decide | omega)]; done) | rw [if_pos (by first | decide | omega)] | rw [if_neg (by first | decide | omega)])
      all_goals (first | (rw [decide_eq_true_eq]; done) | (rw [decide_eq_true_eq]; omega))
    · have e : i = ⟨55, w / 128 % 32, w / 32768 % 32, w / 1048576 % 32, w / 33554432 % 4⟩ := h.symm
      subst e
      refine ⟨?_, by unfold I32; dsimp only; omega⟩
      clear hm h
      unfold isS
      rw [decide_eq_true (by dsimp only; omega), Bool.true_and]
      dsimp only
      repeat (first | (rw [if_pos (by first | decide | omega)]; done) | rw [if_pos (by first | decide | omega)] | rw [if_neg (by first | decide | omega)])
      all_goals (first | (rw [decide_eq_true_eq]; done) | (rw [decide_eq_true_eq]; omega))
    · have e : i = ⟨56, w / 128 % 32, w / 32768 % 32, w / 1048576 % 32, w / 33554432 % 4⟩ := h.symm
      subst e
      refine ⟨?_, by unfold I32; dsimp only; omega⟩
      clear hm h
      unfold isS
      rw [decide_eq_true (by dsimp only; omega), Bool.true_and]
      dsimp only
      repeat (first | (rw [if_pos (by first | decide | omega)]; done) | rw [if_pos (by first | decide | omega)] | rw [if_neg (by first | decide | omega)])
      all_goals (first | (rw [decide_eq_true_eq]; done) | (rw [decide_eq_true_eq]; omega))
    · have e : i = ⟨57, w / 128 % 32, w / 32768 % 32, 0, immI w⟩ := h.symm
      subst e
      refine ⟨?_, by unfold I32; dsimp only; omega⟩
      clear hm h
      unfold isS
      rw [decide_eq_true (by dsimp only; omega), Bool.true_and]
      dsimp only
      repeat (first | (rw [if_pos (by first | decide | omega)]; done) | rw [if_pos (by first | decide | omega)] | rw [if_neg (by first | decide | omega)])
      all_goals (first | (rw [decide_eq_true_eq]; done) | (rw [decide_eq_true_eq]; omega))
    · have e : i = ⟨58, 0, 0, 0, 0⟩ := h.symm
      subst e
      refine ⟨?_, by unfold I32; dsimp only; omega⟩
      clear hm h
      unfold isS
      rw [decide_eq_true (by dsimp only; omega), Bool.true_and]
      dsimp only
      repeat (first | (rw [if_pos (by first | decide | omega)]; done) | rw [if_pos (by first | decide | omega)] | rw [if_neg (by first | decide | omega)])
      all_goals (first | (rw [decide_eq_true_eq]; done) | (rw [decide_eq_true_eq]; omega))
    · have e : i = ⟨59, 0, 0, 0, 0⟩ := h.symm
      subst e
      refine ⟨?_, by unfold I32; dsimp only; omega⟩
      clear hm h
      unfold isS
      rw [decide_eq_true (by dsimp only; omega), Bool.true_and]
      dsimp only
      repeat (first | (rw [if_pos (by first | decide | omega)]; done) | rw [if_pos (by first | decide | omega)] | rw [if_neg (by first | decide | omega)])
      all_goals (first | (rw [decide_eq_true_eq]; done) | (rw [decide_eq_true_eq]; omega))
theorem isS_known {i : InsD} (h : isS i = true) : knownOp i.op = true ∧ regsOk i = true := by
  unfold isS at h
  rw [Bool.and_eq_true, decide_eq_true_eq] at h
  unfold knownOp regsOk
  simp only [Bool.and_eq_true, decide_eq_true_eq]
  omega
end Go.Proofs.YtlfnddmncbkjaacDoor.Fb
