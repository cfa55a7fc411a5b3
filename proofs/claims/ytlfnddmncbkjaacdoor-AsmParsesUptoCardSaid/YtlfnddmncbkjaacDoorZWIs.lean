/- ferrybridgeref2.Is, walked (whole). -/
import Derived.Test.YtlfnddmncbkjaacDoorZWIs1
import Derived.Test.YtlfnddmncbkjaacDoorZWIs2
import Derived.Test.YtlfnddmncbkjaacDoorZWIs3
import Derived.Test.YtlfnddmncbkjaacDoorZMA
namespace Go.Proofs.YtlfnddmncbkjaacDoor.W
set_option linter.unusedVariables false
set_option linter.unusedSimpArgs false
open Go.RowKit Fb
set_option maxRecDepth 100000 in
set_option maxHeartbeats 1000000 in
theorem is2_no (op rd rs1 rs2 imm : Int) (w : World) (h : ¬ (1 ≤ op ∧ op ≤ 59 ∧ 0 ≤ rd ∧ rd ≤ 31 ∧ 0 ≤ rs1 ∧ rs1 ≤ 31 ∧ 0 ≤ rs2 ∧ rs2 ≤ 31)) :
    Calls Tryd.prog 8 #[.agg #[.int .i64 op, .int .i64 rd, .int .i64 rs1, .int .i64 rs2, .int .i32 imm]] w fun e w' => e = .returned (.bool (isS ⟨op, rd, rs1, rs2, imm⟩)) ∧ Below w.heap.size w w' := by
  have HS : Hid (isS ⟨op, rd, rs1, rs2, imm⟩ = false) := Lib.hid (by unfold isS; rw [decide_eq_false (by dsimp only; exact h)]; rfl)
  have hc : op < 1 ∨ (1 ≤ op ∧ 59 < op) ∨ (1 ≤ op ∧ op ≤ 59 ∧ rd < 0) ∨ (1 ≤ op ∧ op ≤ 59 ∧ 0 ≤ rd ∧ 31 < rd) ∨ (1 ≤ op ∧ op ≤ 59 ∧ 0 ≤ rd ∧ rd ≤ 31 ∧ rs1 < 0) ∨ (1 ≤ op ∧ op ≤ 59 ∧ 0 ≤ rd ∧ rd ≤ 31 ∧ 0 ≤ rs1 ∧ 31 < rs1) ∨ (1 ≤ op ∧ op ≤ 59 ∧ 0 ≤ rd ∧ rd ≤ 31 ∧ 0 ≤ rs1 ∧ rs1 ≤ 31 ∧ rs2 < 0) ∨ (1 ≤ op ∧ op ≤ 59 ∧ 0 ≤ rd ∧ rd ≤ 31 ∧ 0 ≤ rs1 ∧ rs1 ≤ 31 ∧ 0 ≤ rs2 ∧ 31 < rs2) := by omega
  clear h
  rcases hc with h1 | ⟨h1, h2⟩ | ⟨h1, h2, h3⟩ | ⟨h1, h2, h3, h4⟩ | ⟨h1, h2, h3, h4, h5⟩ | ⟨h1, h2, h3, h4, h5, h6⟩ | ⟨h1, h2, h3, h4, h5, h6, h7⟩ | ⟨h1, h2, h3, h4, h5, h6, h7, h8⟩
  all_goals
    go_enter Tryd.func8, Tryd.ntmps8
    go_wp2
    go_ret
    exact ⟨ret_bool HS.out.symm, (by repeat (first | with_reducible exact Below.refl _ _ | with_reducible refine below_drewN ?_ _ | ((with_reducible refine Below.setCell ?_ ?hq _); case hq => (first | (simp; done) | (simp; omega))) | ((with_reducible refine Below.alloc ?_ ?hq _); case hq => (first | (simp; done) | (simp; omega)))))⟩
theorem is2_any (i : InsD) (w : World) (himm : -2147483648 ≤ i.imm ∧ i.imm ≤ 2147483647) :
    Calls Tryd.prog 8 #[.agg (icells i)] w fun e w' => e = .returned (.bool (isS i)) ∧ Below w.heap.size w w' := by
  obtain ⟨op, rd, rs1, rs2, imm⟩ := i
  by_cases h : 1 ≤ op ∧ op ≤ 59 ∧ 0 ≤ rd ∧ rd ≤ 31 ∧ 0 ≤ rs1 ∧ rs1 ≤ 31 ∧ 0 ≤ rs2 ∧ rs2 ≤ 31
  rotate_left
  · exact is2_no op rd rs1 rs2 imm w h
  have hc : (1 ≤ op ∧ op ≤ 2) ∨ (op = 3) ∨ (op = 4) ∨ (5 ≤ op ∧ op ≤ 10) ∨ (11 ≤ op ∧ op ≤ 15) ∨ (16 ≤ op ∧ op ≤ 18) ∨ (19 ≤ op ∧ op ≤ 24) ∨ (25 ≤ op ∧ op ≤ 27) ∨ (28 ≤ op ∧ op ≤ 45) ∨ (op = 46) ∨ (47 ≤ op ∧ op ≤ 56) ∨ (op = 57) ∨ (58 ≤ op ∧ op ≤ 59) := by omega
  rcases hc with hc | rfl | rfl | hc | hc | hc | hc | hc | hc | rfl | hc | rfl | hc
  · exact is2_0 op rd rs1 rs2 imm w hc ⟨by omega, by omega⟩ ⟨by omega, by omega⟩ ⟨by omega, by omega⟩ himm
  · exact is2_1 rd rs1 rs2 imm w ⟨by omega, by omega⟩ ⟨by omega, by omega⟩ ⟨by omega, by omega⟩ himm
  · exact is2_2 rd rs1 rs2 imm w ⟨by omega, by omega⟩ ⟨by omega, by omega⟩ ⟨by omega, by omega⟩ himm
  · exact is2_3 op rd rs1 rs2 imm w hc ⟨by omega, by omega⟩ ⟨by omega, by omega⟩ ⟨by omega, by omega⟩ himm
  · exact is2_4 op rd rs1 rs2 imm w hc ⟨by omega, by omega⟩ ⟨by omega, by omega⟩ ⟨by omega, by omega⟩ himm
  · exact is2_5 op rd rs1 rs2 imm w hc ⟨by omega, by omega⟩ ⟨by omega, by omega⟩ ⟨by omega, by omega⟩ himm
  · exact is2_6 op rd rs1 rs2 imm w hc ⟨by omega, by omega⟩ ⟨by omega, by omega⟩ ⟨by omega, by omega⟩ himm
  · exact is2_7 op rd rs1 rs2 imm w hc ⟨by omega, by omega⟩ ⟨by omega, by omega⟩ ⟨by omega, by omega⟩ himm
  · exact is2_8 op rd rs1 rs2 imm w hc ⟨by omega, by omega⟩ ⟨by omega, by omega⟩ ⟨by omega, by omega⟩ himm
  · exact is2_9 rd rs1 rs2 imm w ⟨by omega, by omega⟩ ⟨by omega, by omega⟩ ⟨by omega, by omega⟩ himm
  · exact is2_10 op rd rs1 rs2 imm w hc ⟨by omega, by omega⟩ ⟨by omega, by omega⟩ ⟨by omega, by omega⟩ himm
  · exact is2_11 rd rs1 rs2 imm w ⟨by omega, by omega⟩ ⟨by omega, by omega⟩ ⟨by omega, by omega⟩ himm
  · exact is2_12 op rd rs1 rs2 imm w hc ⟨by omega, by omega⟩ ⟨by omega, by omega⟩ ⟨by omega, by omega⟩ himm
end Go.Proofs.YtlfnddmncbkjaacDoor.W
