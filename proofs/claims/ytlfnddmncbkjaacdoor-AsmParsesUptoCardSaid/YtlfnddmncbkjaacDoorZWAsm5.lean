/- asm.parts, text and Print, walked. -/
import Derived.Test.YtlfnddmncbkjaacDoorZWAsm2
import Derived.Test.YtlfnddmncbkjaacDoorZWAsm4
import Derived.Test.YtlfnddmncbkjaacDoorZMB
import Derived.Test.YtlfnddmncbkjaacDoorZWEncode2
namespace Go.Proofs.YtlfnddmncbkjaacDoor.W
set_option linter.unusedVariables false
set_option linter.unusedSimpArgs false
open Go.RowKit Fb
set_option maxRecDepth 100000 in
set_option maxHeartbeats 3200000 in
theorem parts_jal (op rd rs1 rs2 imm : Int) (hcl : op = 3) (hop : 1 ≤ op ∧ op ≤ 59) (hr : (0 ≤ rd ∧ rd ≤ 31) ∧ (0 ≤ rs1 ∧ rs1 ≤ 31) ∧ 0 ≤ rs2 ∧ rs2 ≤ 31) (hi : -2147483648 ≤ imm ∧ imm ≤ 2147483647) (w : World) (HT : Hid (Lib.TabBelow Tryd.prog w.heap.size w "internal/strconv.uint64pow10" .u64 Lib.pow10Tab)) :
    Calls Tryd.prog 25 #[.agg #[.int .i64 op, .int .i64 rd, .int .i64 rs1, .int .i64 rs2, .int .i32 imm]] w fun e w' => (∃ v, e = .returned v ∧ SRow w' v [regS rd, Lib.itoa imm]) ∧ Below w.heap.size w w' := by
  obtain ⟨w1, hw1⟩ : ∃ w1, w1 = w.alloc (.cells #[.int .i64 op, .int .i64 rd, .int .i64 rs1, .int .i64 rs2, .int .i32 imm] 23) := ⟨_, rfl⟩
  have hb1 : Below w.heap.size w w1 := by rw [hw1]; exact (by repeat (first | with_reducible exact Below.refl _ _ | with_reducible refine below_drewN ?_ _ | ((with_reducible refine Below.setCell ?_ ?hq _); case hq => (first | (simp; done) | (simp; omega))) | ((with_reducible refine Below.alloc ?_ ?hq _); case hq => (first | (simp; done) | (simp; omega)))))
  have hs1 : w.heap.size < w1.heap.size := by rw [hw1]; simp
  have hati : At w1 w.heap.size 0 [.int .i64 op, .int .i64 rd, .int .i64 rs1, .int .i64 rs2, .int .i32 imm] := by rw [hw1]; exact at_alloc w [.int .i64 op, .int .i64 rd, .int .i64 rs1, .int .i64 rs2, .int .i32 imm] _ _
  have c0 : w1.cell? ⟨w.heap.size, 0, none⟩ = some (.int .i64 op) := by rw [hw1]; go_cell
  have c1 : w1.cell? ⟨w.heap.size, 1, none⟩ = some (.int .i64 rd) := by rw [hw1]; go_cell
  have c2 : w1.cell? ⟨w.heap.size, 2, none⟩ = some (.int .i64 rs1) := by rw [hw1]; go_cell
  have c3 : w1.cell? ⟨w.heap.size, 3, none⟩ = some (.int .i64 rs2) := by rw [hw1]; go_cell
  have c4 : w1.cell? ⟨w.heap.size, 4, none⟩ = some (.int .i32 imm) := by rw [hw1]; go_cell
  have HIT : Hid (∀ n : Int, (-2147483648 ≤ n ∧ n ≤ 2147483647) → ∀ W, Below w.heap.size w W → _) := Lib.hid (fun n hn W hW => itoa_any n (by omega) W (HT.out W hW))
  have HR := Lib.hid (fun n hn W => reg_any n hn W)
  have HATN := Lib.hid (fun W => at_any ⟨op, rd, rs1, rs2, imm⟩ (Lib.itoa imm) (Nat.le_trans (itoa_short imm (by omega)) (by decide)) hr.2.1 W)
  have HAT0 := Lib.hid (fun W => at_any ⟨op, rd, rs1, rs2, imm⟩ [] (by decide) hr.2.1 W)
  simp only [icells] at HATN HAT0
  obtain ⟨⟨r0, r1⟩, ⟨r2, r3⟩, r4, r5⟩ := hr
  obtain ⟨o0, o1⟩ := hop
  obtain ⟨i0, i1⟩ := hi
  have HB1 := Lib.hid hb1
  have HW1 := Lib.hid hw1
  have HA1 := Lib.hid hati
  have hwi : IntKind.i64.wrap imm = imm := by simp (disch := omega) only [IntWalk.i64_in]
  have HCL := Lib.hid hcl
  clear hw1 hati hb1 HT hcl
  go_enter Tryd.func25, Tryd.ntmps25
  go_upto_region 1 with (fail)
  rw [← HW1.out]
  go_wp2_with fail
  (try rw [hwi])
  refine (HIT.out imm ⟨i0, i1⟩ w1 HB1.out).mono ?_
  rintro e w2 ⟨rfl, hb2⟩
  have d0 := (hb2.cell (p := ⟨w.heap.size, 0, none⟩) hs1).trans c0
  have d1 := (hb2.cell (p := ⟨w.heap.size, 1, none⟩) hs1).trans c1
  have d2 := (hb2.cell (p := ⟨w.heap.size, 2, none⟩) hs1).trans c2
  have d3 := (hb2.cell (p := ⟨w.heap.size, 3, none⟩) hs1).trans c3
  have d4 := (hb2.cell (p := ⟨w.heap.size, 4, none⟩) hs1).trans c4
  have hlw : w.heap.size < w2.heap.size := Nat.lt_of_lt_of_le hs1 hb2.size
  have HATI := Lib.hid (HA1.out.of_lt hb2 hs1)
  have HWB := Lib.hid (HB1.out.trans (hb2.mono HB1.out.size))
  obtain ⟨bn, hbn⟩ : ∃ b, b = bs (Lib.itoa imm) := ⟨_, rfl⟩
  rw [← hbn] at HATN ⊢
  have HBN := Lib.hid hbn
  clear c0 c1 c2 c3 c4 hb2 hs1 hbn
  have hcl := HCL.out
  subst hcl
  go_wp2_with fail
  refine (HR.out rd (by omega) _).mono ?_
  rintro e w' ⟨rfl, rfl⟩
  go_wp2_with fail
  go_ret
  refine ⟨⟨_, rfl, ?_⟩, HWB.out.alloc HWB.out.size _⟩
  rw [HBN.out]
  exact SRow.two w2 _ _ _
set_option maxRecDepth 100000 in
set_option maxHeartbeats 3200000 in
theorem parts_none (op rd rs1 rs2 imm : Int) (hcl : 58 ≤ op) (hop : 1 ≤ op ∧ op ≤ 59) (hr : (0 ≤ rd ∧ rd ≤ 31) ∧ (0 ≤ rs1 ∧ rs1 ≤ 31) ∧ 0 ≤ rs2 ∧ rs2 ≤ 31) (hi : -2147483648 ≤ imm ∧ imm ≤ 2147483647) (w : World) (HT : Hid (Lib.TabBelow Tryd.prog w.heap.size w "internal/strconv.uint64pow10" .u64 Lib.pow10Tab)) :
    Calls Tryd.prog 25 #[.agg #[.int .i64 op, .int .i64 rd, .int .i64 rs1, .int .i64 rs2, .int .i32 imm]] w fun e w' => (∃ v, e = .returned v ∧ SRow w' v []) ∧ Below w.heap.size w w' := by
  obtain ⟨w1, hw1⟩ : ∃ w1, w1 = w.alloc (.cells #[.int .i64 op, .int .i64 rd, .int .i64 rs1, .int .i64 rs2, .int .i32 imm] 23) := ⟨_, rfl⟩
  have hb1 : Below w.heap.size w w1 := by rw [hw1]; exact (by repeat (first | with_reducible exact Below.refl _ _ | with_reducible refine below_drewN ?_ _ | ((with_reducible refine Below.setCell ?_ ?hq _); case hq => (first | (simp; done) | (simp; omega))) | ((with_reducible refine Below.alloc ?_ ?hq _); case hq => (first | (simp; done) | (simp; omega)))))
  have hs1 : w.heap.size < w1.heap.size := by rw [hw1]; simp
  have hati : At w1 w.heap.size 0 [.int .i64 op, .int .i64 rd, .int .i64 rs1, .int .i64 rs2, .int .i32 imm] := by rw [hw1]; exact at_alloc w [.int .i64 op, .int .i64 rd, .int .i64 rs1, .int .i64 rs2, .int .i32 imm] _ _
  have c0 : w1.cell? ⟨w.heap.size, 0, none⟩ = some (.int .i64 op) := by rw [hw1]; go_cell
  have c1 : w1.cell? ⟨w.heap.size, 1, none⟩ = some (.int .i64 rd) := by rw [hw1]; go_cell
  have c2 : w1.cell? ⟨w.heap.size, 2, none⟩ = some (.int .i64 rs1) := by rw [hw1]; go_cell
  have c3 : w1.cell? ⟨w.heap.size, 3, none⟩ = some (.int .i64 rs2) := by rw [hw1]; go_cell
  have c4 : w1.cell? ⟨w.heap.size, 4, none⟩ = some (.int .i32 imm) := by rw [hw1]; go_cell
  have HIT : Hid (∀ n : Int, (-2147483648 ≤ n ∧ n ≤ 2147483647) → ∀ W, Below w.heap.size w W → _) := Lib.hid (fun n hn W hW => itoa_any n (by omega) W (HT.out W hW))
  have HR := Lib.hid (fun n hn W => reg_any n hn W)
  have HATN := Lib.hid (fun W => at_any ⟨op, rd, rs1, rs2, imm⟩ (Lib.itoa imm) (Nat.le_trans (itoa_short imm (by omega)) (by decide)) hr.2.1 W)
  have HAT0 := Lib.hid (fun W => at_any ⟨op, rd, rs1, rs2, imm⟩ [] (by decide) hr.2.1 W)
  simp only [icells] at HATN HAT0
  obtain ⟨⟨r0, r1⟩, ⟨r2, r3⟩, r4, r5⟩ := hr
  obtain ⟨o0, o1⟩ := hop
  obtain ⟨i0, i1⟩ := hi
  have HB1 := Lib.hid hb1
  have HW1 := Lib.hid hw1
  have HA1 := Lib.hid hati
  have hwi : IntKind.i64.wrap imm = imm := by simp (disch := omega) only [IntWalk.i64_in]
  have HCL := Lib.hid hcl
  clear hw1 hati hb1 HT hcl
  go_enter Tryd.func25, Tryd.ntmps25
  go_upto_region 1 with (fail)
  rw [← HW1.out]
  go_wp2_with fail
  (try rw [hwi])
  refine (HIT.out imm ⟨i0, i1⟩ w1 HB1.out).mono ?_
  rintro e w2 ⟨rfl, hb2⟩
  have d0 := (hb2.cell (p := ⟨w.heap.size, 0, none⟩) hs1).trans c0
  have d1 := (hb2.cell (p := ⟨w.heap.size, 1, none⟩) hs1).trans c1
  have d2 := (hb2.cell (p := ⟨w.heap.size, 2, none⟩) hs1).trans c2
  have d3 := (hb2.cell (p := ⟨w.heap.size, 3, none⟩) hs1).trans c3
  have d4 := (hb2.cell (p := ⟨w.heap.size, 4, none⟩) hs1).trans c4
  have hlw : w.heap.size < w2.heap.size := Nat.lt_of_lt_of_le hs1 hb2.size
  have HATI := Lib.hid (HA1.out.of_lt hb2 hs1)
  have HWB := Lib.hid (HB1.out.trans (hb2.mono HB1.out.size))
  obtain ⟨bn, hbn⟩ : ∃ b, b = bs (Lib.itoa imm) := ⟨_, rfl⟩
  rw [← hbn] at HATN ⊢
  have HBN := Lib.hid hbn
  clear c0 c1 c2 c3 c4 hb2 hs1 hbn
  have g1 := HCL.out
  have q3 : (op == 3) = false := beq_eq_false_iff_ne.2 (by omega)
  have q4 : (op == 4) = false := beq_eq_false_iff_ne.2 (by omega)
  have q46 : (op == 46) = false := beq_eq_false_iff_ne.2 (by omega)
  have q57 : (op == 57) = false := beq_eq_false_iff_ne.2 (by omega)
  go_wp2_with fail
  go_ret
  exact ⟨⟨_, rfl, .inl ⟨rfl, rfl⟩⟩, HWB.out⟩
theorem parts_any (op rd rs1 rs2 imm : Int) (hop : 1 ≤ op ∧ op ≤ 59) (hr : (0 ≤ rd ∧ rd ≤ 31) ∧ (0 ≤ rs1 ∧ rs1 ≤ 31) ∧ 0 ≤ rs2 ∧ rs2 ≤ 31) (hi : -2147483648 ≤ imm ∧ imm ≤ 2147483647) (w : World) (HT : Hid (Lib.TabBelow Tryd.prog w.heap.size w "internal/strconv.uint64pow10" .u64 Lib.pow10Tab)) :
    Calls Tryd.prog 25 #[.agg #[.int .i64 op, .int .i64 rd, .int .i64 rs1, .int .i64 rs2, .int .i32 imm]] w fun e w' => (∃ v, e = .returned v ∧ SRow w' v (partsS ⟨op, rd, rs1, rs2, imm⟩)) ∧ Below w.heap.size w w' := by
  unfold partsS
  simp only
  by_cases c1 : op ≤ 2
  · rw [if_pos c1]; exact parts_u op rd rs1 rs2 imm c1 hop hr hi w HT
  rw [if_neg c1]
  by_cases c2 : op = 3
  · rw [if_pos c2]; exact parts_jal op rd rs1 rs2 imm c2 hop hr hi w HT
  rw [if_neg c2]
  by_cases c3 : op = 4 ∨ (19 ≤ op ∧ op ≤ 27) ∨ op = 57
  · rw [if_pos c3]; exact parts_i op rd rs1 rs2 imm c3 hop hr hi w HT
  rw [if_neg c3]
  by_cases c4 : op ≤ 10
  · rw [if_pos c4]; exact parts_b op rd rs1 rs2 imm (by omega) hop hr hi w HT
  rw [if_neg c4]
  by_cases c5 : op ≤ 15
  · rw [if_pos c5]; exact parts_l op rd rs1 rs2 imm (by omega) hop hr hi w HT
  rw [if_neg c5]
  by_cases c6 : op ≤ 18
  · rw [if_pos c6]; exact parts_s op rd rs1 rs2 imm (by omega) hop hr hi w HT
  rw [if_neg c6]
  by_cases c7 : op ≤ 45
  · rw [if_pos c7]; exact parts_r op rd rs1 rs2 imm (by omega) hop hr hi w HT
  rw [if_neg c7]
  by_cases c8 : op = 46
  · rw [if_pos c8]; exact parts_lr op rd rs1 rs2 imm c8 hop hr hi w HT
  rw [if_neg c8]
  by_cases c9 : op ≤ 56
  · rw [if_pos c9]; exact parts_a op rd rs1 rs2 imm (by omega) hop hr hi w HT
  rw [if_neg c9]
  exact parts_none op rd rs1 rs2 imm (by omega) hop hr hi w HT
theorem regS_len {n : Int} (h : 0 ≤ n ∧ n ≤ 31) : (regS n).length ≤ 22 := by
  have := itoa_short n (by omega)
  unfold regS
  simp only [List.length_cons]
  omega
theorem atS_len {n : Int} {l : List UInt8} (h : 0 ≤ n ∧ n ≤ 31) (hl : l.length ≤ 21) : (atS n l).length ≤ 50 := by
  have := regS_len h
  unfold atS
  simp only [List.length_append, List.length_cons, List.length_nil]
  omega
theorem join_two (a b s : List UInt8) : Lib.join [a, b] s = a ++ s ++ b := by simp [Lib.join, List.intercalate]
theorem join_three (a b c s : List UInt8) : Lib.join [a, b, c] s = a ++ s ++ b ++ s ++ c := by simp [Lib.join, List.intercalate]
theorem parts_join_len {i : InsD} (hr : (0 ≤ i.rd ∧ i.rd ≤ 31) ∧ (0 ≤ i.rs1 ∧ i.rs1 ≤ 31) ∧ 0 ≤ i.rs2 ∧ i.rs2 ≤ 31) (hi : -2147483648 ≤ i.imm ∧ i.imm ≤ 2147483647) : (Lib.join (partsS i) [44]).length ≤ 200 ∧ (partsS i).length ≤ 3 := by
  have h1 := regS_len hr.1
  have h2 := regS_len hr.2.1
  have h3 := regS_len hr.2.2
  have h4 := itoa_short i.imm (by omega)
  have h5 := itoa_short (i.imm / 4096) (by omega)
  have h6 := atS_len hr.2.1 h4
  have h7 := atS_len (l := []) hr.2.1 (by simp)
  unfold partsS
  repeat' split
  all_goals
    refine ⟨?_, by simp⟩
    first
      | (rw [join_two]; simp only [List.length_append, List.length_cons, List.length_nil]; omega)
      | (rw [join_three]; simp only [List.length_append, List.length_cons, List.length_nil]; omega)
      | (rw [Lib.join_nil]; simp)
end Go.Proofs.YtlfnddmncbkjaacDoor.W
