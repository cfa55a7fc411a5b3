/- ferrybridgeref2.Is, walked (part 3). -/
import Derived.Test.YtlfnddmncbkjaacDoorZFbEnc
import Derived.Test.YtlfnddmncbkjaacDoorZMA
namespace Go.Proofs.YtlfnddmncbkjaacDoor.W
set_option linter.unusedVariables false
set_option linter.unusedSimpArgs false
open Go.RowKit Fb
set_option maxRecDepth 100000 in
set_option maxHeartbeats 1000000 in
theorem is2_8 (op rd rs1 rs2 imm : Int) (w : World) (hop : 28 ≤ op ∧ op ≤ 45) (hrd : 0 ≤ rd ∧ rd ≤ 31) (hr1 : 0 ≤ rs1 ∧ rs1 ≤ 31) (hr2 : 0 ≤ rs2 ∧ rs2 ≤ 31) (himm : -2147483648 ≤ imm ∧ imm ≤ 2147483647) :
    Calls Tryd.prog 8 #[.agg #[.int .i64 op, .int .i64 rd, .int .i64 rs1, .int .i64 rs2, .int .i32 imm]] w fun e w' => e = .returned (.bool (isS ⟨op, rd, rs1, rs2, imm⟩)) ∧ Below w.heap.size w w' := by
  obtain ⟨o0, o1⟩ := hop
  have f3 : (op == 3) = false := beq_eq_false_iff_ne.2 (by omega)
  have f4 : (op == 4) = false := beq_eq_false_iff_ne.2 (by omega)
  have f57 : (op == 57) = false := beq_eq_false_iff_ne.2 (by omega)
  have f46 : (op == 46) = false := beq_eq_false_iff_ne.2 (by omega)
  obtain ⟨d0, d1⟩ := hrd
  obtain ⟨a0, a1⟩ := hr1
  obtain ⟨b0, b1⟩ := hr2
  obtain ⟨i0, i1⟩ := himm
  obtain ⟨bb, hbb⟩ : ∃ b, b = isS ⟨op, rd, rs1, rs2, imm⟩ := ⟨_, rfl⟩
  rw [← hbb]
  have HS : Hid (bb = decide (imm = 0)) := Lib.hid (by
    rw [hbb]
    unfold isS
    rw [decide_eq_true (by first | omega | (dsimp only; omega)), Bool.true_and]
    dsimp only
    repeat (first | rw [if_pos (by first | decide | omega)] | rw [if_neg (by first | decide | omega)])
    all_goals (rw [Bool.eq_iff_iff]; simp))
  clear hbb
  have em : imm.tmod 4096 = 0 ↔ imm % 4096 = 0 := by rw [← Int.dvd_iff_tmod_eq_zero, Int.dvd_iff_emod_eq_zero]
  have e2 : imm.tmod 2 = 0 ↔ imm % 2 = 0 := by rw [← Int.dvd_iff_tmod_eq_zero, Int.dvd_iff_emod_eq_zero]
  have EM := Lib.hid (And.intro em e2)
  clear em e2
  go_enter Tryd.func8, Tryd.ntmps8
  go_wp2_with go_in
  all_goals go_ret
  all_goals refine ⟨ret_bool ?_, (by repeat (first | with_reducible exact Below.refl _ _ | with_reducible refine below_drewN ?_ _ | ((with_reducible refine Below.setCell ?_ ?hq _); case hq => (first | (simp; done) | (simp; omega))) | ((with_reducible refine Below.alloc ?_ ?hq _); case hq => (first | (simp; done) | (simp; omega)))))⟩
  all_goals rw [HS.out]
  all_goals have em := EM.out.1
  all_goals have e2 := EM.out.2
  all_goals clear EM HS
  all_goals (try simp only [beq_iff_eq, beq_eq_false_iff_ne, ne_eq, decide_eq_true_eq, decide_eq_false_iff_not] at *)
  all_goals first | (symm; rw [decide_eq_true_eq]; omega) | (symm; rw [decide_eq_false_iff_not]; omega) | (rw [Bool.eq_iff_iff]; simp; omega) | (simp; omega) | (rw [Bool.eq_iff_iff]; simp; done) | (simp [*]; done)
set_option maxRecDepth 100000 in
set_option maxHeartbeats 1000000 in
theorem is2_9 (rd rs1 rs2 imm : Int) (w : World) (hrd : 0 ≤ rd ∧ rd ≤ 31) (hr1 : 0 ≤ rs1 ∧ rs1 ≤ 31) (hr2 : 0 ≤ rs2 ∧ rs2 ≤ 31) (himm : -2147483648 ≤ imm ∧ imm ≤ 2147483647) :
    Calls Tryd.prog 8 #[.agg #[.int .i64 46, .int .i64 rd, .int .i64 rs1, .int .i64 rs2, .int .i32 imm]] w fun e w' => e = .returned (.bool (isS ⟨46, rd, rs1, rs2, imm⟩)) ∧ Below w.heap.size w w' := by
  obtain ⟨d0, d1⟩ := hrd
  obtain ⟨a0, a1⟩ := hr1
  obtain ⟨b0, b1⟩ := hr2
  obtain ⟨i0, i1⟩ := himm
  obtain ⟨bb, hbb⟩ : ∃ b, b = isS ⟨46, rd, rs1, rs2, imm⟩ := ⟨_, rfl⟩
  rw [← hbb]
  have HS : Hid (bb = decide (0 ≤ imm ∧ imm ≤ 3 ∧ (46 = 46 → rs2 = 0))) := Lib.hid (by
    rw [hbb]
    unfold isS
    rw [decide_eq_true (by first | omega | (dsimp only; omega)), Bool.true_and]
    dsimp only
    repeat (first | rw [if_pos (by first | decide | omega)] | rw [if_neg (by first | decide | omega)])
    all_goals (rw [Bool.eq_iff_iff]; simp))
  clear hbb
  have em : imm.tmod 4096 = 0 ↔ imm % 4096 = 0 := by rw [← Int.dvd_iff_tmod_eq_zero, Int.dvd_iff_emod_eq_zero]
  have e2 : imm.tmod 2 = 0 ↔ imm % 2 = 0 := by rw [← Int.dvd_iff_tmod_eq_zero, Int.dvd_iff_emod_eq_zero]
  have EM := Lib.hid (And.intro em e2)
  clear em e2
  go_enter Tryd.func8, Tryd.ntmps8
  go_wp2_with go_in
  all_goals go_ret
  all_goals refine ⟨ret_bool ?_, (by repeat (first | with_reducible exact Below.refl _ _ | with_reducible refine below_drewN ?_ _ | ((with_reducible refine Below.setCell ?_ ?hq _); case hq => (first | (simp; done) | (simp; omega))) | ((with_reducible refine Below.alloc ?_ ?hq _); case hq => (first | (simp; done) | (simp; omega)))))⟩
  all_goals rw [HS.out]
  all_goals have em := EM.out.1
  all_goals have e2 := EM.out.2
  all_goals clear EM HS
  all_goals (try simp only [beq_iff_eq, beq_eq_false_iff_ne, ne_eq, decide_eq_true_eq, decide_eq_false_iff_not] at *)
  all_goals first | (symm; rw [decide_eq_true_eq]; omega) | (symm; rw [decide_eq_false_iff_not]; omega) | (rw [Bool.eq_iff_iff]; simp; omega) | (simp; omega) | (rw [Bool.eq_iff_iff]; simp; done) | (simp [*]; done)
set_option maxRecDepth 100000 in
set_option maxHeartbeats 1000000 in
theorem is2_10 (op rd rs1 rs2 imm : Int) (w : World) (hop : 47 ≤ op ∧ op ≤ 56) (hrd : 0 ≤ rd ∧ rd ≤ 31) (hr1 : 0 ≤ rs1 ∧ rs1 ≤ 31) (hr2 : 0 ≤ rs2 ∧ rs2 ≤ 31) (himm : -2147483648 ≤ imm ∧ imm ≤ 2147483647) :
    Calls Tryd.prog 8 #[.agg #[.int .i64 op, .int .i64 rd, .int .i64 rs1, .int .i64 rs2, .int .i32 imm]] w fun e w' => e = .returned (.bool (isS ⟨op, rd, rs1, rs2, imm⟩)) ∧ Below w.heap.size w w' := by
  obtain ⟨o0, o1⟩ := hop
  have f3 : (op == 3) = false := beq_eq_false_iff_ne.2 (by omega)
  have f4 : (op == 4) = false := beq_eq_false_iff_ne.2 (by omega)
  have f57 : (op == 57) = false := beq_eq_false_iff_ne.2 (by omega)
  have f46 : (op == 46) = false := beq_eq_false_iff_ne.2 (by omega)
  obtain ⟨d0, d1⟩ := hrd
  obtain ⟨a0, a1⟩ := hr1
  obtain ⟨b0, b1⟩ := hr2
  obtain ⟨i0, i1⟩ := himm
  obtain ⟨bb, hbb⟩ : ∃ b, b = isS ⟨op, rd, rs1, rs2, imm⟩ := ⟨_, rfl⟩
  rw [← hbb]
  have HS : Hid (bb = decide (0 ≤ imm ∧ imm ≤ 3 ∧ (op = 46 → rs2 = 0))) := Lib.hid (by
    rw [hbb]
    unfold isS
    rw [decide_eq_true (by first | omega | (dsimp only; omega)), Bool.true_and]
    dsimp only
    repeat (first | rw [if_pos (by first | decide | omega)] | rw [if_neg (by first | decide | omega)])
    all_goals (rw [Bool.eq_iff_iff]; simp))
  clear hbb
  have em : imm.tmod 4096 = 0 ↔ imm % 4096 = 0 := by rw [← Int.dvd_iff_tmod_eq_zero, Int.dvd_iff_emod_eq_zero]
  have e2 : imm.tmod 2 = 0 ↔ imm % 2 = 0 := by rw [← Int.dvd_iff_tmod_eq_zero, Int.dvd_iff_emod_eq_zero]
  have EM := Lib.hid (And.intro em e2)
  clear em e2
  go_enter Tryd.func8, Tryd.ntmps8
  go_wp2_with go_in
  all_goals go_ret
  all_goals refine ⟨ret_bool ?_, (by repeat (first | with_reducible exact Below.refl _ _ | with_reducible refine below_drewN ?_ _ | ((with_reducible refine Below.setCell ?_ ?hq _); case hq => (first | (simp; done) | (simp; omega))) | ((with_reducible refine Below.alloc ?_ ?hq _); case hq => (first | (simp; done) | (simp; omega)))))⟩
  all_goals rw [HS.out]
  all_goals have em := EM.out.1
  all_goals have e2 := EM.out.2
  all_goals clear EM HS
  all_goals (try simp only [beq_iff_eq, beq_eq_false_iff_ne, ne_eq, decide_eq_true_eq, decide_eq_false_iff_not] at *)
  all_goals first | (symm; rw [decide_eq_true_eq]; omega) | (symm; rw [decide_eq_false_iff_not]; omega) | (rw [Bool.eq_iff_iff]; simp; omega) | (simp; omega) | (rw [Bool.eq_iff_iff]; simp; done) | (simp [*]; done)
set_option maxRecDepth 100000 in
set_option maxHeartbeats 1000000 in
theorem is2_11 (rd rs1 rs2 imm : Int) (w : World) (hrd : 0 ≤ rd ∧ rd ≤ 31) (hr1 : 0 ≤ rs1 ∧ rs1 ≤ 31) (hr2 : 0 ≤ rs2 ∧ rs2 ≤ 31) (himm : -2147483648 ≤ imm ∧ imm ≤ 2147483647) :
    Calls Tryd.prog 8 #[.agg #[.int .i64 57, .int .i64 rd, .int .i64 rs1, .int .i64 rs2, .int .i32 imm]] w fun e w' => e = .returned (.bool (isS ⟨57, rd, rs1, rs2, imm⟩)) ∧ Below w.heap.size w w' := by
  obtain ⟨d0, d1⟩ := hrd
  obtain ⟨a0, a1⟩ := hr1
  obtain ⟨b0, b1⟩ := hr2
  obtain ⟨i0, i1⟩ := himm
  obtain ⟨bb, hbb⟩ : ∃ b, b = isS ⟨57, rd, rs1, rs2, imm⟩ := ⟨_, rfl⟩
  rw [← hbb]
  have HS : Hid (bb = decide (rs2 = 0 ∧ -2048 ≤ imm ∧ imm ≤ 2047)) := Lib.hid (by
    rw [hbb]
    unfold isS
    rw [decide_eq_true (by first | omega | (dsimp only; omega)), Bool.true_and]
    dsimp only
    repeat (first | rw [if_pos (by first | decide | omega)] | rw [if_neg (by first | decide | omega)])
    all_goals (rw [Bool.eq_iff_iff]; simp))
  clear hbb
  have em : imm.tmod 4096 = 0 ↔ imm % 4096 = 0 := by rw [← Int.dvd_iff_tmod_eq_zero, Int.dvd_iff_emod_eq_zero]
  have e2 : imm.tmod 2 = 0 ↔ imm % 2 = 0 := by rw [← Int.dvd_iff_tmod_eq_zero, Int.dvd_iff_emod_eq_zero]
  have EM := Lib.hid (And.intro em e2)
  clear em e2
  go_enter Tryd.func8, Tryd.ntmps8
  go_wp2_with go_in
  all_goals go_ret
  all_goals refine ⟨ret_bool ?_, (by repeat (first | with_reducible exact Below.refl _ _ | with_reducible refine below_drewN ?_ _ | ((with_reducible refine Below.setCell ?_ ?hq _); case hq => (first | (simp; done) | (simp; omega))) | ((with_reducible refine Below.alloc ?_ ?hq _); case hq => (first | (simp; done) | (simp; omega)))))⟩
  all_goals rw [HS.out]
  all_goals have em := EM.out.1
  all_goals have e2 := EM.out.2
  all_goals clear EM HS
  all_goals (try simp only [beq_iff_eq, beq_eq_false_iff_ne, ne_eq, decide_eq_true_eq, decide_eq_false_iff_not] at *)
  all_goals first | (symm; rw [decide_eq_true_eq]; omega) | (symm; rw [decide_eq_false_iff_not]; omega) | (rw [Bool.eq_iff_iff]; simp; omega) | (simp; omega) | (rw [Bool.eq_iff_iff]; simp; done) | (simp [*]; done)
set_option maxRecDepth 100000 in
set_option maxHeartbeats 1000000 in
theorem is2_12 (op rd rs1 rs2 imm : Int) (w : World) (hop : 58 ≤ op ∧ op ≤ 59) (hrd : 0 ≤ rd ∧ rd ≤ 31) (hr1 : 0 ≤ rs1 ∧ rs1 ≤ 31) (hr2 : 0 ≤ rs2 ∧ rs2 ≤ 31) (himm : -2147483648 ≤ imm ∧ imm ≤ 2147483647) :
    Calls Tryd.prog 8 #[.agg #[.int .i64 op, .int .i64 rd, .int .i64 rs1, .int .i64 rs2, .int .i32 imm]] w fun e w' => e = .returned (.bool (isS ⟨op, rd, rs1, rs2, imm⟩)) ∧ Below w.heap.size w w' := by
  obtain ⟨o0, o1⟩ := hop
  have f3 : (op == 3) = false := beq_eq_false_iff_ne.2 (by omega)
  have f4 : (op == 4) = false := beq_eq_false_iff_ne.2 (by omega)
  have f57 : (op == 57) = false := beq_eq_false_iff_ne.2 (by omega)
  have f46 : (op == 46) = false := beq_eq_false_iff_ne.2 (by omega)
  obtain ⟨d0, d1⟩ := hrd
  obtain ⟨a0, a1⟩ := hr1
  obtain ⟨b0, b1⟩ := hr2
  obtain ⟨i0, i1⟩ := himm
  obtain ⟨bb, hbb⟩ : ∃ b, b = isS ⟨op, rd, rs1, rs2, imm⟩ := ⟨_, rfl⟩
  rw [← hbb]
  have HS : Hid (bb = decide (rd = 0 ∧ rs1 = 0 ∧ rs2 = 0 ∧ imm = 0)) := Lib.hid (by
    rw [hbb]
    unfold isS
    rw [decide_eq_true (by first | omega | (dsimp only; omega)), Bool.true_and]
    dsimp only
    repeat (first | rw [if_pos (by first | decide | omega)] | rw [if_neg (by first | decide | omega)])
    all_goals (rw [Bool.eq_iff_iff]; simp))
  clear hbb
  have em : imm.tmod 4096 = 0 ↔ imm % 4096 = 0 := by rw [← Int.dvd_iff_tmod_eq_zero, Int.dvd_iff_emod_eq_zero]
  have e2 : imm.tmod 2 = 0 ↔ imm % 2 = 0 := by rw [← Int.dvd_iff_tmod_eq_zero, Int.dvd_iff_emod_eq_zero]
  have EM := Lib.hid (And.intro em e2)
  clear em e2
  go_enter Tryd.func8, Tryd.ntmps8
  go_wp2_with go_in
  all_goals go_ret
  all_goals refine ⟨ret_bool ?_, (by repeat (first | with_reducible exact Below.refl _ _ | with_reducible refine below_drewN ?_ _ | ((with_reducible refine Below.setCell ?_ ?hq _); case hq => (first | (simp; done) | (simp; omega))) | ((with_reducible refine Below.alloc ?_ ?hq _); case hq => (first | (simp; done) | (simp; omega)))))⟩
  all_goals rw [HS.out]
  all_goals have em := EM.out.1
  all_goals have e2 := EM.out.2
  all_goals clear EM HS
  all_goals (try simp only [beq_iff_eq, beq_eq_false_iff_ne, ne_eq, decide_eq_true_eq, decide_eq_false_iff_not] at *)
  all_goals first | (symm; rw [decide_eq_true_eq]; omega) | (symm; rw [decide_eq_false_iff_not]; omega) | (rw [Bool.eq_iff_iff]; simp; omega) | (simp; omega) | (rw [Bool.eq_iff_iff]; simp; done) | (simp [*]; done)
end Go.Proofs.YtlfnddmncbkjaacDoor.W
