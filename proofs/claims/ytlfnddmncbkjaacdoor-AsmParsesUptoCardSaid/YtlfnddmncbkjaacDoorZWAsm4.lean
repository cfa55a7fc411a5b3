/- asm.parts, walked. -/
import Derived.Test.YtlfnddmncbkjaacDoorZWAsm1
import Derived.Test.YtlfnddmncbkjaacDoorZMA
import Derived.Lib.AppendIntMem
namespace Go.Proofs.YtlfnddmncbkjaacDoor.Fb
set_option linter.unusedVariables false
set_option linter.unusedSimpArgs false
open Go.RowKit
/-- strings in a row -/
def SRow (w : World) (v : Value) (xs : List (List UInt8)) : Prop := (xs = [] ∧ v = .slice none 0 0) ∨ ∃ b, v = .slice (some ⟨b, 0, none⟩) xs.length xs.length ∧ b < w.heap.size ∧ ∀ (j : Nat) x, xs[j]? = some x → w.cell? ⟨b, j, none⟩ = some (.string (bs x))
theorem SRow.two (w : World) (t : TypeId) (a b : List UInt8) : SRow (w.alloc (.cells #[.string (bs a), .string (bs b)] t)) (.slice (some ⟨w.heap.size, 0, none⟩) 2 2) [a, b] :=
  .inr ⟨_, rfl, by simp, fun j x h => by
    rw [World.cell?_alloc_at _ _ _ _ rfl]
    match j, h with
    | 0, h => cases h; rfl
    | 1, h => cases h; rfl
    | j + 2, h => simp at h⟩
theorem SRow.three (w : World) (t : TypeId) (a b c : List UInt8) : SRow (w.alloc (.cells #[.string (bs a), .string (bs b), .string (bs c)] t)) (.slice (some ⟨w.heap.size, 0, none⟩) 3 3) [a, b, c] :=
  .inr ⟨_, rfl, by simp, fun j x h => by
    rw [World.cell?_alloc_at _ _ _ _ rfl]
    match j, h with
    | 0, h => cases h; rfl
    | 1, h => cases h; rfl
    | 2, h => cases h; rfl
    | j + 3, h => simp at h⟩
end Go.Proofs.YtlfnddmncbkjaacDoor.Fb
namespace Go.Proofs.YtlfnddmncbkjaacDoor.W
set_option linter.unusedVariables false
set_option linter.unusedSimpArgs false
open Go.RowKit Fb
theorem itoa_any (n : Int) (hn : -9223372036854775808 ≤ n ∧ n ≤ 9223372036854775807) (w : World) (h : Lib.TabIs Tryd.prog w "internal/strconv.uint64pow10" .u64 Lib.pow10Tab) :
    Calls Tryd.prog 37 #[.int .i64 n] w fun e w' => e = .returned (.string (bs (Lib.itoa n))) ∧ Below w.heap.size w w' :=
  (Tryd.strconv_Itoa n hn.1 hn.2 w h).mono fun e w' ⟨h1, k, os, h2⟩ => ⟨h1, by rw [h2]; exact Lib.below_grow _ _ (Nat.le_refl _) k os⟩
set_option maxRecDepth 100000 in
set_option maxHeartbeats 3200000 in
theorem parts_u (op rd rs1 rs2 imm : Int) (hcl : op ≤ 2) (hop : 1 ≤ op ∧ op ≤ 59) (hr : (0 ≤ rd ∧ rd ≤ 31) ∧ (0 ≤ rs1 ∧ rs1 ≤ 31) ∧ 0 ≤ rs2 ∧ rs2 ≤ 31) (hi : -2147483648 ≤ imm ∧ imm ≤ 2147483647) (w : World) (HT : Hid (Lib.TabBelow Tryd.prog w.heap.size w "internal/strconv.uint64pow10" .u64 Lib.pow10Tab)) :
    Calls Tryd.prog 25 #[.agg #[.int .i64 op, .int .i64 rd, .int .i64 rs1, .int .i64 rs2, .int .i32 imm]] w fun e w' => (∃ v, e = .returned v ∧ SRow w' v [regS rd, Lib.itoa (imm / 4096)]) ∧ Below w.heap.size w w' := by
  obtain ⟨w1, hw1⟩ : ∃ w1, w1 = w.alloc (.cells #[.int .i64 op, .int .i64 rd, .int .i64 rs1, .int .i64 rs2, .int .i32 imm] 23) := ⟨_, rfl⟩
  have hb1 : Below w.heap.size w w1 := by rw [hw1]; exact (by repeat (first | with_reducible exact Below.refl _ _ | with_reducible refine below_drewN ?_ _ | ((with_reducible refine Below.setCell ?_ ?hq _); case hq => (first | (simp; done) | (simp; omega))) | ((with_reducible refine Below.alloc ?_ ?hq _); case hq => (first | (simp; done) | (simp; omega)))))
  have hs1 : w.heap.size < w1.heap.size := by rw [hw1]; simp
  have hati : At w1 w.heap.size 0 [.int .i64 op, .int .i64 rd, .int .i64 rs1, .int .i64 rs2, .int .i32 imm] := by rw [hw1]; exact at_alloc w [.int .i64 op, .int .i64 rd, .int .i64 rs1, .int .i64 rs2, .int .i32 imm] _ _
  have c0 : w1.cell? ⟨w.heap.size, 0, none⟩ = some (.int .i64 op) := by rw [hw1]; go_cell
  have c1 : w1.cell? ⟨w.heap.size, 1, none⟩ = some (.int .i64 rd) := by rw [hw1]; go_cell
  have c2 : w1.cell? ⟨w.heap.size, 2, none⟩ = some (.int .i64 rs1) := by rw [hw1]; go_cell
  have c3 : w1.cell? ⟨w.heap.size, 3, none⟩ = some (.int .i64 rs2) := by rw [hw1]; go_cell
  have c4 : w1.cell? ⟨w.heap.size, 4, none⟩ = some (.int .i32 imm) := by rw [hw1]; go_cell
  have HIT : Hid (∀ n : Int, (-2147483648 ≤ n ∧ n ≤ 2147483647) → ∀ W, Below w.heap.size w W → _) := Lib.hid (fun n hn W hW => itoa_any n (by omega) W (HT.out W hW))
  have HR := Lib.hid (fun n hn W => reg_any n hn W)
  have HATN := Lib.hid (fun W => at_any ⟨op, rd, rs1, rs2, imm⟩ (Lib.itoa imm) (Nat.le_trans (itoa_short imm (by omega)) (by decide)) hr.2.1 W)
  have HAT0 := Lib.hid (fun W => at_any ⟨op, rd, rs1, rs2, imm⟩ [] (by decide) hr.2.1 W)
  simp only [icells] at HATN HAT0
  obtain ⟨⟨r0, r1⟩, ⟨r2, r3⟩, r4, r5⟩ := hr
  obtain ⟨o0, o1⟩ := hop
  obtain ⟨i0, i1⟩ := hi
  have HB1 := Lib.hid hb1
  have HW1 := Lib.hid hw1
  have HA1 := Lib.hid hati
  have hwi : IntKind.i64.wrap imm = imm := by simp (disch := omega) only [IntWalk.i64_in]
  have HCL := Lib.hid hcl
  clear hw1 hati hb1 HT hcl
  go_enter Tryd.func25, Tryd.ntmps25
  go_upto_region 1 with (fail)
  rw [← HW1.out]
  go_wp2_with fail
  (try rw [hwi])
  refine (HIT.out imm ⟨i0, i1⟩ w1 HB1.out).mono ?_
  rintro e w2 ⟨rfl, hb2⟩
  have d0 := (hb2.cell (p := ⟨w.heap.size, 0, none⟩) hs1).trans c0
  have d1 := (hb2.cell (p := ⟨w.heap.size, 1, none⟩) hs1).trans c1
  have d2 := (hb2.cell (p := ⟨w.heap.size, 2, none⟩) hs1).trans c2
  have d3 := (hb2.cell (p := ⟨w.heap.size, 3, none⟩) hs1).trans c3
  have d4 := (hb2.cell (p := ⟨w.heap.size, 4, none⟩) hs1).trans c4
  have hlw : w.heap.size < w2.heap.size := Nat.lt_of_lt_of_le hs1 hb2.size
  have HATI := Lib.hid (HA1.out.of_lt hb2 hs1)
  have HWB := Lib.hid (HB1.out.trans (hb2.mono HB1.out.size))
  obtain ⟨bn, hbn⟩ : ∃ b, b = bs (Lib.itoa imm) := ⟨_, rfl⟩
  rw [← hbn] at HATN ⊢
  have HBN := Lib.hid hbn
  clear c0 c1 c2 c3 c4 hb2 hs1 hbn
  have g1 := HCL.out
  have q3 : (op == 3) = false := beq_eq_false_iff_ne.2 (by omega)
  have q4 : (op == 4) = false := beq_eq_false_iff_ne.2 (by omega)
  have q46 : (op == 46) = false := beq_eq_false_iff_ne.2 (by omega)
  have q57 : (op == 57) = false := beq_eq_false_iff_ne.2 (by omega)
  go_wp2_with fail
  refine region_quiet_tail (fun W => Below w2.heap.size w2 W) 8 (by kernel_rfl) (by kernel_rfl) (Below.drew (Below.refl _ _)) ?_
  simp only [List.take_succ_cons, List.take_zero]
  quiet_step ((intro _; rfl))
  refine wpQuiet_cell rfl 3 _ rfl ⟨w.heap.size, 1, none⟩ rfl (.int .i64 rd) (fun W hW => by have hc := (hW.cell (p := ⟨w.heap.size, 1, none⟩) hlw).trans d1; go_simp) ?_
  quiet_step ((intro hC; exact (HR.out rd (by omega) _).mono (fun e w'' ⟨he, hw⟩ => ⟨he, hw ▸ hC⟩)))
  quiet_step ((intro _; rfl))
  refine wpQuiet_cell rfl 21 _ rfl ⟨w.heap.size, 4, none⟩ rfl (.int .i32 imm) (fun W hW => by have hc := (hW.cell (p := ⟨w.heap.size, 4, none⟩) hlw).trans d4; go_simp) ?_
  refine wpQuiet_val rfl (.int .i32 (imm / 4096)) (fun W hW => by unfold Oper.quietAt; go_simp) ?_
  refine wpQuiet_val rfl (.int .i64 (imm / 4096)) (fun W hW => by unfold Oper.quietAt; go_simp; simp (disch := omega) only [IntWalk.i64_in]) ?_
  quiet_step ((intro hC; exact (HIT.out (imm / 4096) (by omega) _ (HWB.out.trans (hC.mono HWB.out.size))).mono (fun e w'' ⟨he, hb⟩ => ⟨he, hC.trans (hb.mono hC.size)⟩)))
  refine wpQuiet_nil ?_
  intro w9 hb9
  simp only [List.drop_succ_cons, List.drop_zero]
  go_wp2_with fail
  go_ret
  refine ⟨⟨_, rfl, ?_⟩, (HWB.out.trans (hb9.mono HWB.out.size)).alloc (Nat.le_trans HWB.out.size hb9.size) _⟩
  exact SRow.two w9 _ _ _
set_option maxRecDepth 100000 in
set_option maxHeartbeats 3200000 in
theorem parts_i (op rd rs1 rs2 imm : Int) (hcl : op = 4 ∨ (19 ≤ op ∧ op ≤ 27) ∨ op = 57) (hop : 1 ≤ op ∧ op ≤ 59) (hr : (0 ≤ rd ∧ rd ≤ 31) ∧ (0 ≤ rs1 ∧ rs1 ≤ 31) ∧ 0 ≤ rs2 ∧ rs2 ≤ 31) (hi : -2147483648 ≤ imm ∧ imm ≤ 2147483647) (w : World) (HT : Hid (Lib.TabBelow Tryd.prog w.heap.size w "internal/strconv.uint64pow10" .u64 Lib.pow10Tab)) :
    Calls Tryd.prog 25 #[.agg #[.int .i64 op, .int .i64 rd, .int .i64 rs1, .int .i64 rs2, .int .i32 imm]] w fun e w' => (∃ v, e = .returned v ∧ SRow w' v [regS rd, regS rs1, Lib.itoa imm]) ∧ Below w.heap.size w w' := by
  obtain ⟨w1, hw1⟩ : ∃ w1, w1 = w.alloc (.cells #[.int .i64 op, .int .i64 rd, .int .i64 rs1, .int .i64 rs2, .int .i32 imm] 23) := ⟨_, rfl⟩
  have hb1 : Below w.heap.size w w1 := by rw [hw1]; exact (by repeat (first | with_reducible exact Below.refl _ _ | with_reducible refine below_drewN ?_ _ | ((with_reducible refine Below.setCell ?_ ?hq _); case hq => (first | (simp; done) | (simp; omega))) | ((with_reducible refine Below.alloc ?_ ?hq _); case hq => (first | (simp; done) | (simp; omega)))))
  have hs1 : w.heap.size < w1.heap.size := by rw [hw1]; simp
  have hati : At w1 w.heap.size 0 [.int .i64 op, .int .i64 rd, .int .i64 rs1, .int .i64 rs2, .int .i32 imm] := by rw [hw1]; exact at_alloc w [.int .i64 op, .int .i64 rd, .int .i64 rs1, .int .i64 rs2, .int .i32 imm] _ _
  have c0 : w1.cell? ⟨w.heap.size, 0, none⟩ = some (.int .i64 op) := by rw [hw1]; go_cell
  have c1 : w1.cell? ⟨w.heap.size, 1, none⟩ = some (.int .i64 rd) := by rw [hw1]; go_cell
  have c2 : w1.cell? ⟨w.heap.size, 2, none⟩ = some (.int .i64 rs1) := by rw [hw1]; go_cell
  have c3 : w1.cell? ⟨w.heap.size, 3, none⟩ = some (.int .i64 rs2) := by rw [hw1]; go_cell
  have c4 : w1.cell? ⟨w.heap.size, 4, none⟩ = some (.int .i32 imm) := by rw [hw1]; go_cell
  have HIT : Hid (∀ n : Int, (-2147483648 ≤ n ∧ n ≤ 2147483647) → ∀ W, Below w.heap.size w W → _) := Lib.hid (fun n hn W hW => itoa_any n (by omega) W (HT.out W hW))
  have HR := Lib.hid (fun n hn W => reg_any n hn W)
  have HATN := Lib.hid (fun W => at_any ⟨op, rd, rs1, rs2, imm⟩ (Lib.itoa imm) (Nat.le_trans (itoa_short imm (by omega)) (by decide)) hr.2.1 W)
  have HAT0 := Lib.hid (fun W => at_any ⟨op, rd, rs1, rs2, imm⟩ [] (by decide) hr.2.1 W)
  simp only [icells] at HATN HAT0
  obtain ⟨⟨r0, r1⟩, ⟨r2, r3⟩, r4, r5⟩ := hr
  obtain ⟨o0, o1⟩ := hop
  obtain ⟨i0, i1⟩ := hi
  have HB1 := Lib.hid hb1
  have HW1 := Lib.hid hw1
  have HA1 := Lib.hid hati
  have hwi : IntKind.i64.wrap imm = imm := by simp (disch := omega) only [IntWalk.i64_in]
  have HCL := Lib.hid hcl
  clear hw1 hati hb1 HT hcl
  go_enter Tryd.func25, Tryd.ntmps25
  go_upto_region 1 with (fail)
  rw [← HW1.out]
  go_wp2_with fail
  (try rw [hwi])
  refine (HIT.out imm ⟨i0, i1⟩ w1 HB1.out).mono ?_
  rintro e w2 ⟨rfl, hb2⟩
  have d0 := (hb2.cell (p := ⟨w.heap.size, 0, none⟩) hs1).trans c0
  have d1 := (hb2.cell (p := ⟨w.heap.size, 1, none⟩) hs1).trans c1
  have d2 := (hb2.cell (p := ⟨w.heap.size, 2, none⟩) hs1).trans c2
  have d3 := (hb2.cell (p := ⟨w.heap.size, 3, none⟩) hs1).trans c3
  have d4 := (hb2.cell (p := ⟨w.heap.size, 4, none⟩) hs1).trans c4
  have hlw : w.heap.size < w2.heap.size := Nat.lt_of_lt_of_le hs1 hb2.size
  have HATI := Lib.hid (HA1.out.of_lt hb2 hs1)
  have HWB := Lib.hid (HB1.out.trans (hb2.mono HB1.out.size))
  obtain ⟨bn, hbn⟩ : ∃ b, b = bs (Lib.itoa imm) := ⟨_, rfl⟩
  rw [← hbn] at HATN ⊢
  have HBN := Lib.hid hbn
  clear c0 c1 c2 c3 c4 hb2 hs1 hbn
  rcases HCL.out with rfl | ⟨g1, g2⟩ | rfl
  · skip
    go_wp2_with fail
    refine region_quiet_tail (fun W => Below w2.heap.size w2 W) 7 (by kernel_rfl) (by kernel_rfl) (Below.drew (Below.refl _ _)) ?_
    simp only [List.take_succ_cons, List.take_zero]
    quiet_step ((intro _; rfl))
    refine wpQuiet_cell rfl 3 _ rfl ⟨w.heap.size, 1, none⟩ rfl (.int .i64 rd) (fun W hW => by have hc := (hW.cell (p := ⟨w.heap.size, 1, none⟩) hlw).trans d1; go_simp) ?_
    quiet_step ((intro hC; exact (HR.out rd (by omega) _).mono (fun e w'' ⟨he, hw⟩ => ⟨he, hw ▸ hC⟩)))
    quiet_step ((intro _; rfl))
    refine wpQuiet_cell rfl 3 _ rfl ⟨w.heap.size, 2, none⟩ rfl (.int .i64 rs1) (fun W hW => by have hc := (hW.cell (p := ⟨w.heap.size, 2, none⟩) hlw).trans d2; go_simp) ?_
    quiet_step ((intro hC; exact (HR.out rs1 (by omega) _).mono (fun e w'' ⟨he, hw⟩ => ⟨he, hw ▸ hC⟩)))
    quiet_step ((intro _; rfl))
    refine wpQuiet_nil ?_
    intro w9 hb9
    simp only [List.drop_succ_cons, List.drop_zero]
    go_wp2_with fail
    go_ret
    refine ⟨⟨_, rfl, ?_⟩, (HWB.out.trans (hb9.mono HWB.out.size)).alloc (Nat.le_trans HWB.out.size hb9.size) _⟩
    rw [HBN.out]
    exact SRow.three w9 _ _ _ _
  · skip
    have q3 : (op == 3) = false := beq_eq_false_iff_ne.2 (by omega)
    have q4 : (op == 4) = false := beq_eq_false_iff_ne.2 (by omega)
    have q46 : (op == 46) = false := beq_eq_false_iff_ne.2 (by omega)
    have q57 : (op == 57) = false := beq_eq_false_iff_ne.2 (by omega)
    go_wp2_with fail
    refine region_quiet_tail (fun W => Below w2.heap.size w2 W) 7 (by kernel_rfl) (by kernel_rfl) (Below.drew (Below.refl _ _)) ?_
    simp only [List.take_succ_cons, List.take_zero]
    quiet_step ((intro _; rfl))
    refine wpQuiet_cell rfl 3 _ rfl ⟨w.heap.size, 1, none⟩ rfl (.int .i64 rd) (fun W hW => by have hc := (hW.cell (p := ⟨w.heap.size, 1, none⟩) hlw).trans d1; go_simp) ?_
    quiet_step ((intro hC; exact (HR.out rd (by omega) _).mono (fun e w'' ⟨he, hw⟩ => ⟨he, hw ▸ hC⟩)))
    quiet_step ((intro _; rfl))
    refine wpQuiet_cell rfl 3 _ rfl ⟨w.heap.size, 2, none⟩ rfl (.int .i64 rs1) (fun W hW => by have hc := (hW.cell (p := ⟨w.heap.size, 2, none⟩) hlw).trans d2; go_simp) ?_
    quiet_step ((intro hC; exact (HR.out rs1 (by omega) _).mono (fun e w'' ⟨he, hw⟩ => ⟨he, hw ▸ hC⟩)))
    quiet_step ((intro _; rfl))
    refine wpQuiet_nil ?_
    intro w9 hb9
    simp only [List.drop_succ_cons, List.drop_zero]
    go_wp2_with fail
    go_ret
    refine ⟨⟨_, rfl, ?_⟩, (HWB.out.trans (hb9.mono HWB.out.size)).alloc (Nat.le_trans HWB.out.size hb9.size) _⟩
    rw [HBN.out]
    exact SRow.three w9 _ _ _ _
  · skip
    go_wp2_with fail
    refine region_quiet_tail (fun W => Below w2.heap.size w2 W) 7 (by kernel_rfl) (by kernel_rfl) (Below.drew (Below.refl _ _)) ?_
    simp only [List.take_succ_cons, List.take_zero]
    quiet_step ((intro _; rfl))
    refine wpQuiet_cell rfl 3 _ rfl ⟨w.heap.size, 1, none⟩ rfl (.int .i64 rd) (fun W hW => by have hc := (hW.cell (p := ⟨w.heap.size, 1, none⟩) hlw).trans d1; go_simp) ?_
    quiet_step ((intro hC; exact (HR.out rd (by omega) _).mono (fun e w'' ⟨he, hw⟩ => ⟨he, hw ▸ hC⟩)))
    quiet_step ((intro _; rfl))
    refine wpQuiet_cell rfl 3 _ rfl ⟨w.heap.size, 2, none⟩ rfl (.int .i64 rs1) (fun W hW => by have hc := (hW.cell (p := ⟨w.heap.size, 2, none⟩) hlw).trans d2; go_simp) ?_
    quiet_step ((intro hC; exact (HR.out rs1 (by omega) _).mono (fun e w'' ⟨he, hw⟩ => ⟨he, hw ▸ hC⟩)))
    quiet_step ((intro _; rfl))
    refine wpQuiet_nil ?_
    intro w9 hb9
    simp only [List.drop_succ_cons, List.drop_zero]
    go_wp2_with fail
    go_ret
    refine ⟨⟨_, rfl, ?_⟩, (HWB.out.trans (hb9.mono HWB.out.size)).alloc (Nat.le_trans HWB.out.size hb9.size) _⟩
    rw [HBN.out]
    exact SRow.three w9 _ _ _ _
set_option maxRecDepth 100000 in
set_option maxHeartbeats 3200000 in
theorem parts_b (op rd rs1 rs2 imm : Int) (hcl : 5 ≤ op ∧ op ≤ 10) (hop : 1 ≤ op ∧ op ≤ 59) (hr : (0 ≤ rd ∧ rd ≤ 31) ∧ (0 ≤ rs1 ∧ rs1 ≤ 31) ∧ 0 ≤ rs2 ∧ rs2 ≤ 31) (hi : -2147483648 ≤ imm ∧ imm ≤ 2147483647) (w : World) (HT : Hid (Lib.TabBelow Tryd.prog w.heap.size w "internal/strconv.uint64pow10" .u64 Lib.pow10Tab)) :
    Calls Tryd.prog 25 #[.agg #[.int .i64 op, .int .i64 rd, .int .i64 rs1, .int .i64 rs2, .int .i32 imm]] w fun e w' => (∃ v, e = .returned v ∧ SRow w' v [regS rs1, regS rs2, Lib.itoa imm]) ∧ Below w.heap.size w w' := by
  obtain ⟨w1, hw1⟩ : ∃ w1, w1 = w.alloc (.cells #[.int .i64 op, .int .i64 rd, .int .i64 rs1, .int .i64 rs2, .int .i32 imm] 23) := ⟨_, rfl⟩
  have hb1 : Below w.heap.size w w1 := by rw [hw1]; exact (by repeat (first | with_reducible exact Below.refl _ _ | with_reducible refine below_drewN ?_ _ | ((with_reducible refine Below.setCell ?_ ?hq _); case hq => (first | (simp; done) | (simp; omega))) | ((with_reducible refine Below.alloc ?_ ?hq _); case hq => (first | (simp; done) | (simp; omega)))))
  have hs1 : w.heap.size < w1.heap.size := by rw [hw1]; simp
  have hati : At w1 w.heap.size 0 [.int .i64 op, .int .i64 rd, .int .i64 rs1, .int .i64 rs2, .int .i32 imm] := by rw [hw1]; exact at_alloc w [.int .i64 op, .int .i64 rd, .int .i64 rs1, .int .i64 rs2, .int .i32 imm] _ _
  have c0 : w1.cell? ⟨w.heap.size, 0, none⟩ = some (.int .i64 op) := by rw [hw1]; go_cell
  have c1 : w1.cell? ⟨w.heap.size, 1, none⟩ = some (.int .i64 rd) := by rw [hw1]; go_cell
  have c2 : w1.cell? ⟨w.heap.size, 2, none⟩ = some (.int .i64 rs1) := by rw [hw1]; go_cell
  have c3 : w1.cell? ⟨w.heap.size, 3, none⟩ = some (.int .i64 rs2) := by rw [hw1]; go_cell
  have c4 : w1.cell? ⟨w.heap.size, 4, none⟩ = some (.int .i32 imm) := by rw [hw1]; go_cell
  have HIT : Hid (∀ n : Int, (-2147483648 ≤ n ∧ n ≤ 2147483647) → ∀ W, Below w.heap.size w W → _) := Lib.hid (fun n hn W hW => itoa_any n (by omega) W (HT.out W hW))
  have HR := Lib.hid (fun n hn W => reg_any n hn W)
  have HATN := Lib.hid (fun W => at_any ⟨op, rd, rs1, rs2, imm⟩ (Lib.itoa imm) (Nat.le_trans (itoa_short imm (by omega)) (by decide)) hr.2.1 W)
  have HAT0 := Lib.hid (fun W => at_any ⟨op, rd, rs1, rs2, imm⟩ [] (by decide) hr.2.1 W)
  simp only [icells] at HATN HAT0
  obtain ⟨⟨r0, r1⟩, ⟨r2, r3⟩, r4, r5⟩ := hr
  obtain ⟨o0, o1⟩ := hop
  obtain ⟨i0, i1⟩ := hi
  have HB1 := Lib.hid hb1
  have HW1 := Lib.hid hw1
  have HA1 := Lib.hid hati
  have hwi : IntKind.i64.wrap imm = imm := by simp (disch := omega) only [IntWalk.i64_in]
  have HCL := Lib.hid hcl
  clear hw1 hati hb1 HT hcl
  go_enter Tryd.func25, Tryd.ntmps25
  go_upto_region 1 with (fail)
  rw [← HW1.out]
  go_wp2_with fail
  (try rw [hwi])
  refine (HIT.out imm ⟨i0, i1⟩ w1 HB1.out).mono ?_
  rintro e w2 ⟨rfl, hb2⟩
  have d0 := (hb2.cell (p := ⟨w.heap.size, 0, none⟩) hs1).trans c0
  have d1 := (hb2.cell (p := ⟨w.heap.size, 1, none⟩) hs1).trans c1
  have d2 := (hb2.cell (p := ⟨w.heap.size, 2, none⟩) hs1).trans c2
  have d3 := (hb2.cell (p := ⟨w.heap.size, 3, none⟩) hs1).trans c3
  have d4 := (hb2.cell (p := ⟨w.heap.size, 4, none⟩) hs1).trans c4
  have hlw : w.heap.size < w2.heap.size := Nat.lt_of_lt_of_le hs1 hb2.size
  have HATI := Lib.hid (HA1.out.of_lt hb2 hs1)
  have HWB := Lib.hid (HB1.out.trans (hb2.mono HB1.out.size))
  obtain ⟨bn, hbn⟩ : ∃ b, b = bs (Lib.itoa imm) := ⟨_, rfl⟩
  rw [← hbn] at HATN ⊢
  have HBN := Lib.hid hbn
  clear c0 c1 c2 c3 c4 hb2 hs1 hbn
  obtain ⟨g1, g2⟩ := HCL.out
  have q3 : (op == 3) = false := beq_eq_false_iff_ne.2 (by omega)
  have q4 : (op == 4) = false := beq_eq_false_iff_ne.2 (by omega)
  have q46 : (op == 46) = false := beq_eq_false_iff_ne.2 (by omega)
  have q57 : (op == 57) = false := beq_eq_false_iff_ne.2 (by omega)
  go_wp2_with fail
  refine region_quiet_tail (fun W => Below w2.heap.size w2 W) 7 (by kernel_rfl) (by kernel_rfl) (Below.drew (Below.refl _ _)) ?_
  simp only [List.take_succ_cons, List.take_zero]
  quiet_step ((intro _; rfl))
  refine wpQuiet_cell rfl 3 _ rfl ⟨w.heap.size, 2, none⟩ rfl (.int .i64 rs1) (fun W hW => by have hc := (hW.cell (p := ⟨w.heap.size, 2, none⟩) hlw).trans d2; go_simp) ?_
  quiet_step ((intro hC; exact (HR.out rs1 (by omega) _).mono (fun e w'' ⟨he, hw⟩ => ⟨he, hw ▸ hC⟩)))
  quiet_step ((intro _; rfl))
  refine wpQuiet_cell rfl 3 _ rfl ⟨w.heap.size, 3, none⟩ rfl (.int .i64 rs2) (fun W hW => by have hc := (hW.cell (p := ⟨w.heap.size, 3, none⟩) hlw).trans d3; go_simp) ?_
  quiet_step ((intro hC; exact (HR.out rs2 (by omega) _).mono (fun e w'' ⟨he, hw⟩ => ⟨he, hw ▸ hC⟩)))
  quiet_step ((intro _; rfl))
  refine wpQuiet_nil ?_
  intro w9 hb9
  simp only [List.drop_succ_cons, List.drop_zero]
  go_wp2_with fail
  go_ret
  refine ⟨⟨_, rfl, ?_⟩, (HWB.out.trans (hb9.mono HWB.out.size)).alloc (Nat.le_trans HWB.out.size hb9.size) _⟩
  rw [HBN.out]
  exact SRow.three w9 _ _ _ _
set_option maxRecDepth 100000 in
set_option maxHeartbeats 3200000 in
theorem parts_l (op rd rs1 rs2 imm : Int) (hcl : 11 ≤ op ∧ op ≤ 15) (hop : 1 ≤ op ∧ op ≤ 59) (hr : (0 ≤ rd ∧ rd ≤ 31) ∧ (0 ≤ rs1 ∧ rs1 ≤ 31) ∧ 0 ≤ rs2 ∧ rs2 ≤ 31) (hi : -2147483648 ≤ imm ∧ imm ≤ 2147483647) (w : World) (HT : Hid (Lib.TabBelow Tryd.prog w.heap.size w "internal/strconv.uint64pow10" .u64 Lib.pow10Tab)) :
    Calls Tryd.prog 25 #[.agg #[.int .i64 op, .int .i64 rd, .int .i64 rs1, .int .i64 rs2, .int .i32 imm]] w fun e w' => (∃ v, e = .returned v ∧ SRow w' v [regS rd, atS rs1 (Lib.itoa imm)]) ∧ Below w.heap.size w w' := by
  obtain ⟨w1, hw1⟩ : ∃ w1, w1 = w.alloc (.cells #[.int .i64 op, .int .i64 rd, .int .i64 rs1, .int .i64 rs2, .int .i32 imm] 23) := ⟨_, rfl⟩
  have hb1 : Below w.heap.size w w1 := by rw [hw1]; exact (by repeat (first | with_reducible exact Below.refl _ _ | with_reducible refine below_drewN ?_ _ | ((with_reducible refine Below.setCell ?_ ?hq _); case hq => (first | (simp; done) | (simp; omega))) | ((with_reducible refine Below.alloc ?_ ?hq _); case hq => (first | (simp; done) | (simp; omega)))))
  have hs1 : w.heap.size < w1.heap.size := by rw [hw1]; simp
  have hati : At w1 w.heap.size 0 [.int .i64 op, .int .i64 rd, .int .i64 rs1, .int .i64 rs2, .int .i32 imm] := by rw [hw1]; exact at_alloc w [.int .i64 op, .int .i64 rd, .int .i64 rs1, .int .i64 rs2, .int .i32 imm] _ _
  have c0 : w1.cell? ⟨w.heap.size, 0, none⟩ = some (.int .i64 op) := by rw [hw1]; go_cell
  have c1 : w1.cell? ⟨w.heap.size, 1, none⟩ = some (.int .i64 rd) := by rw [hw1]; go_cell
  have c2 : w1.cell? ⟨w.heap.size, 2, none⟩ = some (.int .i64 rs1) := by rw [hw1]; go_cell
  have c3 : w1.cell? ⟨w.heap.size, 3, none⟩ = some (.int .i64 rs2) := by rw [hw1]; go_cell
  have c4 : w1.cell? ⟨w.heap.size, 4, none⟩ = some (.int .i32 imm) := by rw [hw1]; go_cell
  have HIT : Hid (∀ n : Int, (-2147483648 ≤ n ∧ n ≤ 2147483647) → ∀ W, Below w.heap.size w W → _) := Lib.hid (fun n hn W hW => itoa_any n (by omega) W (HT.out W hW))
  have HR := Lib.hid (fun n hn W => reg_any n hn W)
  have HATN := Lib.hid (fun W => at_any ⟨op, rd, rs1, rs2, imm⟩ (Lib.itoa imm) (Nat.le_trans (itoa_short imm (by omega)) (by decide)) hr.2.1 W)
  have HAT0 := Lib.hid (fun W => at_any ⟨op, rd, rs1, rs2, imm⟩ [] (by decide) hr.2.1 W)
  simp only [icells] at HATN HAT0
  obtain ⟨⟨r0, r1⟩, ⟨r2, r3⟩, r4, r5⟩ := hr
  obtain ⟨o0, o1⟩ := hop
  obtain ⟨i0, i1⟩ := hi
  have HB1 := Lib.hid hb1
  have HW1 := Lib.hid hw1
  have HA1 := Lib.hid hati
  have hwi : IntKind.i64.wrap imm = imm := by simp (disch := omega) only [IntWalk.i64_in]
  have HCL := Lib.hid hcl
  clear hw1 hati hb1 HT hcl
  go_enter Tryd.func25, Tryd.ntmps25
  go_upto_region 1 with (fail)
  rw [← HW1.out]
  go_wp2_with fail
  (try rw [hwi])
  refine (HIT.out imm ⟨i0, i1⟩ w1 HB1.out).mono ?_
  rintro e w2 ⟨rfl, hb2⟩
  have d0 := (hb2.cell (p := ⟨w.heap.size, 0, none⟩) hs1).trans c0
  have d1 := (hb2.cell (p := ⟨w.heap.size, 1, none⟩) hs1).trans c1
  have d2 := (hb2.cell (p := ⟨w.heap.size, 2, none⟩) hs1).trans c2
  have d3 := (hb2.cell (p := ⟨w.heap.size, 3, none⟩) hs1).trans c3
  have d4 := (hb2.cell (p := ⟨w.heap.size, 4, none⟩) hs1).trans c4
  have hlw : w.heap.size < w2.heap.size := Nat.lt_of_lt_of_le hs1 hb2.size
  have HATI := Lib.hid (HA1.out.of_lt hb2 hs1)
  have HWB := Lib.hid (HB1.out.trans (hb2.mono HB1.out.size))
  obtain ⟨bn, hbn⟩ : ∃ b, b = bs (Lib.itoa imm) := ⟨_, rfl⟩
  rw [← hbn] at HATN ⊢
  have HBN := Lib.hid hbn
  clear c0 c1 c2 c3 c4 hb2 hs1 hbn
  obtain ⟨g1, g2⟩ := HCL.out
  have q3 : (op == 3) = false := beq_eq_false_iff_ne.2 (by omega)
  have q4 : (op == 4) = false := beq_eq_false_iff_ne.2 (by omega)
  have q46 : (op == 46) = false := beq_eq_false_iff_ne.2 (by omega)
  have q57 : (op == 57) = false := beq_eq_false_iff_ne.2 (by omega)
  go_wp2_with fail
  refine region_quiet_tail (fun W => Below w2.heap.size w2 W) 6 (by kernel_rfl) (by kernel_rfl) (Below.drew (Below.refl _ _)) ?_
  simp only [List.take_succ_cons, List.take_zero]
  quiet_step ((intro _; rfl))
  refine wpQuiet_cell rfl 3 _ rfl ⟨w.heap.size, 1, none⟩ rfl (.int .i64 rd) (fun W hW => by have hc := (hW.cell (p := ⟨w.heap.size, 1, none⟩) hlw).trans d1; go_simp) ?_
  quiet_step ((intro hC; exact (HR.out rd (by omega) _).mono (fun e w'' ⟨he, hw⟩ => ⟨he, hw ▸ hC⟩)))
  refine wpQuiet_load_at rfl 23 _ rfl w.heap.size 0 rfl #[.int .i64 op, .int .i64 rd, .int .i64 rs1, .int .i64 rs2, .int .i32 imm] _ (fun W hW => HATI.out.of_lt hW hlw) Tryd.underlying23 rfl (by kernel_rfl) ?_
  quiet_step ((intro _; rfl))
  quiet_step ((intro hC; exact (HATN.out _).mono (fun e w'' ⟨he, hb⟩ => ⟨he, hC.trans (hb.mono hC.size)⟩)))
  refine wpQuiet_nil ?_
  intro w9 hb9
  simp only [List.drop_succ_cons, List.drop_zero]
  go_wp2_with fail
  go_ret
  refine ⟨⟨_, rfl, ?_⟩, (HWB.out.trans (hb9.mono HWB.out.size)).alloc (Nat.le_trans HWB.out.size hb9.size) _⟩
  exact SRow.two w9 _ _ _
set_option maxRecDepth 100000 in
set_option maxHeartbeats 3200000 in
theorem parts_s (op rd rs1 rs2 imm : Int) (hcl : 16 ≤ op ∧ op ≤ 18) (hop : 1 ≤ op ∧ op ≤ 59) (hr : (0 ≤ rd ∧ rd ≤ 31) ∧ (0 ≤ rs1 ∧ rs1 ≤ 31) ∧ 0 ≤ rs2 ∧ rs2 ≤ 31) (hi : -2147483648 ≤ imm ∧ imm ≤ 2147483647) (w : World) (HT : Hid (Lib.TabBelow Tryd.prog w.heap.size w "internal/strconv.uint64pow10" .u64 Lib.pow10Tab)) :
    Calls Tryd.prog 25 #[.agg #[.int .i64 op, .int .i64 rd, .int .i64 rs1, .int .i64 rs2, .int .i32 imm]] w fun e w' => (∃ v, e = .returned v ∧ SRow w' v [regS rs2, atS rs1 (Lib.itoa imm)]) ∧ Below w.heap.size w w' := by
  obtain ⟨w1, hw1⟩ : ∃ w1, w1 = w.alloc (.cells #[.int .i64 op, .int .i64 rd, .int .i64 rs1, .int .i64 rs2, .int .i32 imm] 23) := ⟨_, rfl⟩
  have hb1 : Below w.heap.size w w1 := by rw [hw1]; exact (by repeat (first | with_reducible exact Below.refl _ _ | with_reducible refine below_drewN ?_ _ | ((with_reducible refine Below.setCell ?_ ?hq _); case hq => (first | (simp; done) | (simp; omega))) | ((with_reducible refine Below.alloc ?_ ?hq _); case hq => (first | (simp; done) | (simp; omega)))))
  have hs1 : w.heap.size < w1.heap.size := by rw [hw1]; simp
  have hati : At w1 w.heap.size 0 [.int .i64 op, .int .i64 rd, .int .i64 rs1, .int .i64 rs2, .int .i32 imm] := by rw [hw1]; exact at_alloc w [.int .i64 op, .int .i64 rd, .int .i64 rs1, .int .i64 rs2, .int .i32 imm] _ _
  have c0 : w1.cell? ⟨w.heap.size, 0, none⟩ = some (.int .i64 op) := by rw [hw1]; go_cell
  have c1 : w1.cell? ⟨w.heap.size, 1, none⟩ = some (.int .i64 rd) := by rw [hw1]; go_cell
  have c2 : w1.cell? ⟨w.heap.size, 2, none⟩ = some (.int .i64 rs1) := by rw [hw1]; go_cell
  have c3 : w1.cell? ⟨w.heap.size, 3, none⟩ = some (.int .i64 rs2) := by rw [hw1]; go_cell
  have c4 : w1.cell? ⟨w.heap.size, 4, none⟩ = some (.int .i32 imm) := by rw [hw1]; go_cell
  have HIT : Hid (∀ n : Int, (-2147483648 ≤ n ∧ n ≤ 2147483647) → ∀ W, Below w.heap.size w W → _) := Lib.hid (fun n hn W hW => itoa_any n (by omega) W (HT.out W hW))
  have HR := Lib.hid (fun n hn W => reg_any n hn W)
  have HATN := Lib.hid (fun W => at_any ⟨op, rd, rs1, rs2, imm⟩ (Lib.itoa imm) (Nat.le_trans (itoa_short imm (by omega)) (by decide)) hr.2.1 W)
  have HAT0 := Lib.hid (fun W => at_any ⟨op, rd, rs1, rs2, imm⟩ [] (by decide) hr.2.1 W)
  simp only [icells] at HATN HAT0
  obtain ⟨⟨r0, r1⟩, ⟨r2, r3⟩, r4, r5⟩ := hr
  obtain ⟨o0, o1⟩ := hop
  obtain ⟨i0, i1⟩ := hi
  have HB1 := Lib.hid hb1
  have HW1 := Lib.hid hw1
  have HA1 := Lib.hid hati
  have hwi : IntKind.i64.wrap imm = imm := by simp (disch := omega) only [IntWalk.i64_in]
  have HCL := Lib.hid hcl
  clear hw1 hati hb1 HT hcl
  go_enter Tryd.func25, Tryd.ntmps25
  go_upto_region 1 with (fail)
  rw [← HW1.out]
  go_wp2_with fail
  (try rw [hwi])
  refine (HIT.out imm ⟨i0, i1⟩ w1 HB1.out).mono ?_
  rintro e w2 ⟨rfl, hb2⟩
  have d0 := (hb2.cell (p := ⟨w.heap.size, 0, none⟩) hs1).trans c0
  have d1 := (hb2.cell (p := ⟨w.heap.size, 1, none⟩) hs1).trans c1
  have d2 := (hb2.cell (p := ⟨w.heap.size, 2, none⟩) hs1).trans c2
  have d3 := (hb2.cell (p := ⟨w.heap.size, 3, none⟩) hs1).trans c3
  have d4 := (hb2.cell (p := ⟨w.heap.size, 4, none⟩) hs1).trans c4
  have hlw : w.heap.size < w2.heap.size := Nat.lt_of_lt_of_le hs1 hb2.size
  have HATI := Lib.hid (HA1.out.of_lt hb2 hs1)
  have HWB := Lib.hid (HB1.out.trans (hb2.mono HB1.out.size))
  obtain ⟨bn, hbn⟩ : ∃ b, b = bs (Lib.itoa imm) := ⟨_, rfl⟩
  rw [← hbn] at HATN ⊢
  have HBN := Lib.hid hbn
  clear c0 c1 c2 c3 c4 hb2 hs1 hbn
  obtain ⟨g1, g2⟩ := HCL.out
  have q3 : (op == 3) = false := beq_eq_false_iff_ne.2 (by omega)
  have q4 : (op == 4) = false := beq_eq_false_iff_ne.2 (by omega)
  have q46 : (op == 46) = false := beq_eq_false_iff_ne.2 (by omega)
  have q57 : (op == 57) = false := beq_eq_false_iff_ne.2 (by omega)
  go_wp2_with fail
  refine region_quiet_tail (fun W => Below w2.heap.size w2 W) 6 (by kernel_rfl) (by kernel_rfl) (Below.drew (Below.refl _ _)) ?_
  simp only [List.take_succ_cons, List.take_zero]
  quiet_step ((intro _; rfl))
  refine wpQuiet_cell rfl 3 _ rfl ⟨w.heap.size, 3, none⟩ rfl (.int .i64 rs2) (fun W hW => by have hc := (hW.cell (p := ⟨w.heap.size, 3, none⟩) hlw).trans d3; go_simp) ?_
  quiet_step ((intro hC; exact (HR.out rs2 (by omega) _).mono (fun e w'' ⟨he, hw⟩ => ⟨he, hw ▸ hC⟩)))
  refine wpQuiet_load_at rfl 23 _ rfl w.heap.size 0 rfl #[.int .i64 op, .int .i64 rd, .int .i64 rs1, .int .i64 rs2, .int .i32 imm] _ (fun W hW => HATI.out.of_lt hW hlw) Tryd.underlying23 rfl (by kernel_rfl) ?_
  quiet_step ((intro _; rfl))
  quiet_step ((intro hC; exact (HATN.out _).mono (fun e w'' ⟨he, hb⟩ => ⟨he, hC.trans (hb.mono hC.size)⟩)))
  refine wpQuiet_nil ?_
  intro w9 hb9
  simp only [List.drop_succ_cons, List.drop_zero]
  go_wp2_with fail
  go_ret
  refine ⟨⟨_, rfl, ?_⟩, (HWB.out.trans (hb9.mono HWB.out.size)).alloc (Nat.le_trans HWB.out.size hb9.size) _⟩
  exact SRow.two w9 _ _ _
set_option maxRecDepth 100000 in
set_option maxHeartbeats 3200000 in
theorem parts_r (op rd rs1 rs2 imm : Int) (hcl : 28 ≤ op ∧ op ≤ 45) (hop : 1 ≤ op ∧ op ≤ 59) (hr : (0 ≤ rd ∧ rd ≤ 31) ∧ (0 ≤ rs1 ∧ rs1 ≤ 31) ∧ 0 ≤ rs2 ∧ rs2 ≤ 31) (hi : -2147483648 ≤ imm ∧ imm ≤ 2147483647) (w : World) (HT : Hid (Lib.TabBelow Tryd.prog w.heap.size w "internal/strconv.uint64pow10" .u64 Lib.pow10Tab)) :
    Calls Tryd.prog 25 #[.agg #[.int .i64 op, .int .i64 rd, .int .i64 rs1, .int .i64 rs2, .int .i32 imm]] w fun e w' => (∃ v, e = .returned v ∧ SRow w' v [regS rd, regS rs1, regS rs2]) ∧ Below w.heap.size w w' := by
  obtain ⟨w1, hw1⟩ : ∃ w1, w1 = w.alloc (.cells #[.int .i64 op, .int .i64 rd, .int .i64 rs1, .int .i64 rs2, .int .i32 imm] 23) := ⟨_, rfl⟩
  have hb1 : Below w.heap.size w w1 := by rw [hw1]; exact (by repeat (first | with_reducible exact Below.refl _ _ | with_reducible refine below_drewN ?_ _ | ((with_reducible refine Below.setCell ?_ ?hq _); case hq => (first | (simp; done) | (simp; omega))) | ((with_reducible refine Below.alloc ?_ ?hq _); case hq => (first | (simp; done) | (simp; omega)))))
  have hs1 : w.heap.size < w1.heap.size := by rw [hw1]; simp
  have hati : At w1 w.heap.size 0 [.int .i64 op, .int .i64 rd, .int .i64 rs1, .int .i64 rs2, .int .i32 imm] := by rw [hw1]; exact at_alloc w [.int .i64 op, .int .i64 rd, .int .i64 rs1, .int .i64 rs2, .int .i32 imm] _ _
  have c0 : w1.cell? ⟨w.heap.size, 0, none⟩ = some (.int .i64 op) := by rw [hw1]; go_cell
  have c1 : w1.cell? ⟨w.heap.size, 1, none⟩ = some (.int .i64 rd) := by rw [hw1]; go_cell
  have c2 : w1.cell? ⟨w.heap.size, 2, none⟩ = some (.int .i64 rs1) := by rw [hw1]; go_cell
  have c3 : w1.cell? ⟨w.heap.size, 3, none⟩ = some (.int .i64 rs2) := by rw [hw1]; go_cell
  have c4 : w1.cell? ⟨w.heap.size, 4, none⟩ = some (.int .i32 imm) := by rw [hw1]; go_cell
  have HIT : Hid (∀ n : Int, (-2147483648 ≤ n ∧ n ≤ 2147483647) → ∀ W, Below w.heap.size w W → _) := Lib.hid (fun n hn W hW => itoa_any n (by omega) W (HT.out W hW))
  have HR := Lib.hid (fun n hn W => reg_any n hn W)
  have HATN := Lib.hid (fun W => at_any ⟨op, rd, rs1, rs2, imm⟩ (Lib.itoa imm) (Nat.le_trans (itoa_short imm (by omega)) (by decide)) hr.2.1 W)
  have HAT0 := Lib.hid (fun W => at_any ⟨op, rd, rs1, rs2, imm⟩ [] (by decide) hr.2.1 W)
  simp only [icells] at HATN HAT0
  obtain ⟨⟨r0, r1⟩, ⟨r2, r3⟩, r4, r5⟩ := hr
  obtain ⟨o0, o1⟩ := hop
  obtain ⟨i0, i1⟩ := hi
  have HB1 := Lib.hid hb1
  have HW1 := Lib.hid hw1
  have HA1 := Lib.hid hati
  have hwi : IntKind.i64.wrap imm = imm := by simp (disch := omega) only [IntWalk.i64_in]
  have HCL := Lib.hid hcl
  clear hw1 hati hb1 HT hcl
  go_enter Tryd.func25, Tryd.ntmps25
  go_upto_region 1 with (fail)
  rw [← HW1.out]
  go_wp2_with fail
  (try rw [hwi])
  refine (HIT.out imm ⟨i0, i1⟩ w1 HB1.out).mono ?_
  rintro e w2 ⟨rfl, hb2⟩
  have d0 := (hb2.cell (p := ⟨w.heap.size, 0, none⟩) hs1).trans c0
  have d1 := (hb2.cell (p := ⟨w.heap.size, 1, none⟩) hs1).trans c1
  have d2 := (hb2.cell (p := ⟨w.heap.size, 2, none⟩) hs1).trans c2
  have d3 := (hb2.cell (p := ⟨w.heap.size, 3, none⟩) hs1).trans c3
  have d4 := (hb2.cell (p := ⟨w.heap.size, 4, none⟩) hs1).trans c4
  have hlw : w.heap.size < w2.heap.size := Nat.lt_of_lt_of_le hs1 hb2.size
  have HATI := Lib.hid (HA1.out.of_lt hb2 hs1)
  have HWB := Lib.hid (HB1.out.trans (hb2.mono HB1.out.size))
  obtain ⟨bn, hbn⟩ : ∃ b, b = bs (Lib.itoa imm) := ⟨_, rfl⟩
  rw [← hbn] at HATN ⊢
  have HBN := Lib.hid hbn
  clear c0 c1 c2 c3 c4 hb2 hs1 hbn
  obtain ⟨g1, g2⟩ := HCL.out
  have q3 : (op == 3) = false := beq_eq_false_iff_ne.2 (by omega)
  have q4 : (op == 4) = false := beq_eq_false_iff_ne.2 (by omega)
  have q46 : (op == 46) = false := beq_eq_false_iff_ne.2 (by omega)
  have q57 : (op == 57) = false := beq_eq_false_iff_ne.2 (by omega)
  go_wp2_with fail
  refine region_quiet_tail (fun W => Below w2.heap.size w2 W) 9 (by kernel_rfl) (by kernel_rfl) (Below.drew (Below.refl _ _)) ?_
  simp only [List.take_succ_cons, List.take_zero]
  quiet_step ((intro _; rfl))
  refine wpQuiet_cell rfl 3 _ rfl ⟨w.heap.size, 1, none⟩ rfl (.int .i64 rd) (fun W hW => by have hc := (hW.cell (p := ⟨w.heap.size, 1, none⟩) hlw).trans d1; go_simp) ?_
  quiet_step ((intro hC; exact (HR.out rd (by omega) _).mono (fun e w'' ⟨he, hw⟩ => ⟨he, hw ▸ hC⟩)))
  quiet_step ((intro _; rfl))
  refine wpQuiet_cell rfl 3 _ rfl ⟨w.heap.size, 2, none⟩ rfl (.int .i64 rs1) (fun W hW => by have hc := (hW.cell (p := ⟨w.heap.size, 2, none⟩) hlw).trans d2; go_simp) ?_
  quiet_step ((intro hC; exact (HR.out rs1 (by omega) _).mono (fun e w'' ⟨he, hw⟩ => ⟨he, hw ▸ hC⟩)))
  quiet_step ((intro _; rfl))
  refine wpQuiet_cell rfl 3 _ rfl ⟨w.heap.size, 3, none⟩ rfl (.int .i64 rs2) (fun W hW => by have hc := (hW.cell (p := ⟨w.heap.size, 3, none⟩) hlw).trans d3; go_simp) ?_
  quiet_step ((intro hC; exact (HR.out rs2 (by omega) _).mono (fun e w'' ⟨he, hw⟩ => ⟨he, hw ▸ hC⟩)))
  refine wpQuiet_nil ?_
  intro w9 hb9
  simp only [List.drop_succ_cons, List.drop_zero]
  go_wp2_with fail
  go_ret
  refine ⟨⟨_, rfl, ?_⟩, (HWB.out.trans (hb9.mono HWB.out.size)).alloc (Nat.le_trans HWB.out.size hb9.size) _⟩
  exact SRow.three w9 _ _ _ _
set_option maxRecDepth 100000 in
set_option maxHeartbeats 3200000 in
theorem parts_lr (op rd rs1 rs2 imm : Int) (hcl : op = 46) (hop : 1 ≤ op ∧ op ≤ 59) (hr : (0 ≤ rd ∧ rd ≤ 31) ∧ (0 ≤ rs1 ∧ rs1 ≤ 31) ∧ 0 ≤ rs2 ∧ rs2 ≤ 31) (hi : -2147483648 ≤ imm ∧ imm ≤ 2147483647) (w : World) (HT : Hid (Lib.TabBelow Tryd.prog w.heap.size w "internal/strconv.uint64pow10" .u64 Lib.pow10Tab)) :
    Calls Tryd.prog 25 #[.agg #[.int .i64 op, .int .i64 rd, .int .i64 rs1, .int .i64 rs2, .int .i32 imm]] w fun e w' => (∃ v, e = .returned v ∧ SRow w' v [regS rd, atS rs1 []]) ∧ Below w.heap.size w w' := by
  obtain ⟨w1, hw1⟩ : ∃ w1, w1 = w.alloc (.cells #[.int .i64 op, .int .i64 rd, .int .i64 rs1, .int .i64 rs2, .int .i32 imm] 23) := ⟨_, rfl⟩
  have hb1 : Below w.heap.size w w1 := by rw [hw1]; exact (by repeat (first | with_reducible exact Below.refl _ _ | with_reducible refine below_drewN ?_ _ | ((with_reducible refine Below.setCell ?_ ?hq _); case hq => (first | (simp; done) | (simp; omega))) | ((with_reducible refine Below.alloc ?_ ?hq _); case hq => (first | (simp; done) | (simp; omega)))))
  have hs1 : w.heap.size < w1.heap.size := by rw [hw1]; simp
  have hati : At w1 w.heap.size 0 [.int .i64 op, .int .i64 rd, .int .i64 rs1, .int .i64 rs2, .int .i32 imm] := by rw [hw1]; exact at_alloc w [.int .i64 op, .int .i64 rd, .int .i64 rs1, .int .i64 rs2, .int .i32 imm] _ _
  have c0 : w1.cell? ⟨w.heap.size, 0, none⟩ = some (.int .i64 op) := by rw [hw1]; go_cell
  have c1 : w1.cell? ⟨w.heap.size, 1, none⟩ = some (.int .i64 rd) := by rw [hw1]; go_cell
  have c2 : w1.cell? ⟨w.heap.size, 2, none⟩ = some (.int .i64 rs1) := by rw [hw1]; go_cell
  have c3 : w1.cell? ⟨w.heap.size, 3, none⟩ = some (.int .i64 rs2) := by rw [hw1]; go_cell
  have c4 : w1.cell? ⟨w.heap.size, 4, none⟩ = some (.int .i32 imm) := by rw [hw1]; go_cell
  have HIT : Hid (∀ n : Int, (-2147483648 ≤ n ∧ n ≤ 2147483647) → ∀ W, Below w.heap.size w W → _) := Lib.hid (fun n hn W hW => itoa_any n (by omega) W (HT.out W hW))
  have HR := Lib.hid (fun n hn W => reg_any n hn W)
  have HATN := Lib.hid (fun W => at_any ⟨op, rd, rs1, rs2, imm⟩ (Lib.itoa imm) (Nat.le_trans (itoa_short imm (by omega)) (by decide)) hr.2.1 W)
  have HAT0 := Lib.hid (fun W => at_any ⟨op, rd, rs1, rs2, imm⟩ [] (by decide) hr.2.1 W)
  simp only [icells] at HATN HAT0
  obtain ⟨⟨r0, r1⟩, ⟨r2, r3⟩, r4, r5⟩ := hr
  obtain ⟨o0, o1⟩ := hop
  obtain ⟨i0, i1⟩ := hi
  have HB1 := Lib.hid hb1
  have HW1 := Lib.hid hw1
  have HA1 := Lib.hid hati
  have hwi : IntKind.i64.wrap imm = imm := by simp (disch := omega) only [IntWalk.i64_in]
  have HCL := Lib.hid hcl
  clear hw1 hati hb1 HT hcl
  go_enter Tryd.func25, Tryd.ntmps25
  go_upto_region 1 with (fail)
  rw [← HW1.out]
  go_wp2_with fail
  (try rw [hwi])
  refine (HIT.out imm ⟨i0, i1⟩ w1 HB1.out).mono ?_
  rintro e w2 ⟨rfl, hb2⟩
  have d0 := (hb2.cell (p := ⟨w.heap.size, 0, none⟩) hs1).trans c0
  have d1 := (hb2.cell (p := ⟨w.heap.size, 1, none⟩) hs1).trans c1
  have d2 := (hb2.cell (p := ⟨w.heap.size, 2, none⟩) hs1).trans c2
  have d3 := (hb2.cell (p := ⟨w.heap.size, 3, none⟩) hs1).trans c3
  have d4 := (hb2.cell (p := ⟨w.heap.size, 4, none⟩) hs1).trans c4
  have hlw : w.heap.size < w2.heap.size := Nat.lt_of_lt_of_le hs1 hb2.size
  have HATI := Lib.hid (HA1.out.of_lt hb2 hs1)
  have HWB := Lib.hid (HB1.out.trans (hb2.mono HB1.out.size))
  obtain ⟨bn, hbn⟩ : ∃ b, b = bs (Lib.itoa imm) := ⟨_, rfl⟩
  rw [← hbn] at HATN ⊢
  have HBN := Lib.hid hbn
  clear c0 c1 c2 c3 c4 hb2 hs1 hbn
  have hcl := HCL.out
  subst hcl
  go_wp2_with fail
  refine region_quiet_tail (fun W => Below w2.heap.size w2 W) 5 (by kernel_rfl) (by kernel_rfl) (Below.drew (Below.refl _ _)) ?_
  simp only [List.take_succ_cons, List.take_zero]
  quiet_step ((intro _; rfl))
  refine wpQuiet_cell rfl 3 _ rfl ⟨w.heap.size, 1, none⟩ rfl (.int .i64 rd) (fun W hW => by have hc := (hW.cell (p := ⟨w.heap.size, 1, none⟩) hlw).trans d1; go_simp) ?_
  quiet_step ((intro hC; exact (HR.out rd (by omega) _).mono (fun e w'' ⟨he, hw⟩ => ⟨he, hw ▸ hC⟩)))
  refine wpQuiet_load_at rfl 23 _ rfl w.heap.size 0 rfl #[.int .i64 46, .int .i64 rd, .int .i64 rs1, .int .i64 rs2, .int .i32 imm] _ (fun W hW => HATI.out.of_lt hW hlw) Tryd.underlying23 rfl (by kernel_rfl) ?_
  quiet_step ((intro hC; exact (HAT0.out _).mono (fun e w'' ⟨he, hb⟩ => ⟨he, hC.trans (hb.mono hC.size)⟩)))
  refine wpQuiet_nil ?_
  intro w9 hb9
  simp only [List.drop_succ_cons, List.drop_zero]
  go_wp2_with fail
  go_ret
  refine ⟨⟨_, rfl, ?_⟩, (HWB.out.trans (hb9.mono HWB.out.size)).alloc (Nat.le_trans HWB.out.size hb9.size) _⟩
  exact SRow.two w9 _ _ _
set_option maxRecDepth 100000 in
set_option maxHeartbeats 3200000 in
theorem parts_a (op rd rs1 rs2 imm : Int) (hcl : 47 ≤ op ∧ op ≤ 56) (hop : 1 ≤ op ∧ op ≤ 59) (hr : (0 ≤ rd ∧ rd ≤ 31) ∧ (0 ≤ rs1 ∧ rs1 ≤ 31) ∧ 0 ≤ rs2 ∧ rs2 ≤ 31) (hi : -2147483648 ≤ imm ∧ imm ≤ 2147483647) (w : World) (HT : Hid (Lib.TabBelow Tryd.prog w.heap.size w "internal/strconv.uint64pow10" .u64 Lib.pow10Tab)) :
    Calls Tryd.prog 25 #[.agg #[.int .i64 op, .int .i64 rd, .int .i64 rs1, .int .i64 rs2, .int .i32 imm]] w fun e w' => (∃ v, e = .returned v ∧ SRow w' v [regS rd, regS rs2, atS rs1 []]) ∧ Below w.heap.size w w' := by
  obtain ⟨w1, hw1⟩ : ∃ w1, w1 = w.alloc (.cells #[.int .i64 op, .int .i64 rd, .int .i64 rs1, .int .i64 rs2, .int .i32 imm] 23) := ⟨_, rfl⟩
  have hb1 : Below w.heap.size w w1 := by rw [hw1]; exact (by repeat (first | with_reducible exact Below.refl _ _ | with_reducible refine below_drewN ?_ _ | ((with_reducible refine Below.setCell ?_ ?hq _); case hq => (first | (simp; done) | (simp; omega))) | ((with_reducible refine Below.alloc ?_ ?hq _); case hq => (first | (simp; done) | (simp; omega)))))
  have hs1 : w.heap.size < w1.heap.size := by rw [hw1]; simp
  have hati : At w1 w.heap.size 0 [.int .i64 op, .int .i64 rd, .int .i64 rs1, .int .i64 rs2, .int .i32 imm] := by rw [hw1]; exact at_alloc w [.int .i64 op, .int .i64 rd, .int .i64 rs1, .int .i64 rs2, .int .i32 imm] _ _
  have c0 : w1.cell? ⟨w.heap.size, 0, none⟩ = some (.int .i64 op) := by rw [hw1]; go_cell
  have c1 : w1.cell? ⟨w.heap.size, 1, none⟩ = some (.int .i64 rd) := by rw [hw1]; go_cell
  have c2 : w1.cell? ⟨w.heap.size, 2, none⟩ = some (.int .i64 rs1) := by rw [hw1]; go_cell
  have c3 : w1.cell? ⟨w.heap.size, 3, none⟩ = some (.int .i64 rs2) := by rw [hw1]; go_cell
  have c4 : w1.cell? ⟨w.heap.size, 4, none⟩ = some (.int .i32 imm) := by rw [hw1]; go_cell
  have HIT : Hid (∀ n : Int, (-2147483648 ≤ n ∧ n ≤ 2147483647) → ∀ W, Below w.heap.size w W → _) := Lib.hid (fun n hn W hW => itoa_any n (by omega) W (HT.out W hW))
  have HR := Lib.hid (fun n hn W => reg_any n hn W)
  have HATN := Lib.hid (fun W => at_any ⟨op, rd, rs1, rs2, imm⟩ (Lib.itoa imm) (Nat.le_trans (itoa_short imm (by omega)) (by decide)) hr.2.1 W)
  have HAT0 := Lib.hid (fun W => at_any ⟨op, rd, rs1, rs2, imm⟩ [] (by decide) hr.2.1 W)
  simp only [icells] at HATN HAT0
  obtain ⟨⟨r0, r1⟩, ⟨r2, r3⟩, r4, r5⟩ := hr
  obtain ⟨o0, o1⟩ := hop
  obtain ⟨i0, i1⟩ := hi
  have HB1 := Lib.hid hb1
  have HW1 := Lib.hid hw1
  have HA1 := Lib.hid hati
  have hwi : IntKind.i64.wrap imm = imm := by simp (disch := omega) only [IntWalk.i64_in]
  have HCL := Lib.hid hcl
  clear hw1 hati hb1 HT hcl
  go_enter Tryd.func25, Tryd.ntmps25
  go_upto_region 1 with (fail)
  rw [← HW1.out]
  go_wp2_with fail
  (try rw [hwi])
  refine (HIT.out imm ⟨i0, i1⟩ w1 HB1.out).mono ?_
  rintro e w2 ⟨rfl, hb2⟩
  have d0 := (hb2.cell (p := ⟨w.heap.size, 0, none⟩) hs1).trans c0
  have d1 := (hb2.cell (p := ⟨w.heap.size, 1, none⟩) hs1).trans c1
  have d2 := (hb2.cell (p := ⟨w.heap.size, 2, none⟩) hs1).trans c2
  have d3 := (hb2.cell (p := ⟨w.heap.size, 3, none⟩) hs1).trans c3
  have d4 := (hb2.cell (p := ⟨w.heap.size, 4, none⟩) hs1).trans c4
  have hlw : w.heap.size < w2.heap.size := Nat.lt_of_lt_of_le hs1 hb2.size
  have HATI := Lib.hid (HA1.out.of_lt hb2 hs1)
  have HWB := Lib.hid (HB1.out.trans (hb2.mono HB1.out.size))
  obtain ⟨bn, hbn⟩ : ∃ b, b = bs (Lib.itoa imm) := ⟨_, rfl⟩
  rw [← hbn] at HATN ⊢
  have HBN := Lib.hid hbn
  clear c0 c1 c2 c3 c4 hb2 hs1 hbn
  obtain ⟨g1, g2⟩ := HCL.out
  have q3 : (op == 3) = false := beq_eq_false_iff_ne.2 (by omega)
  have q4 : (op == 4) = false := beq_eq_false_iff_ne.2 (by omega)
  have q46 : (op == 46) = false := beq_eq_false_iff_ne.2 (by omega)
  have q57 : (op == 57) = false := beq_eq_false_iff_ne.2 (by omega)
  go_wp2_with fail
  refine region_quiet_tail (fun W => Below w2.heap.size w2 W) 8 (by kernel_rfl) (by kernel_rfl) (Below.drew (Below.refl _ _)) ?_
  simp only [List.take_succ_cons, List.take_zero]
  quiet_step ((intro _; rfl))
  refine wpQuiet_cell rfl 3 _ rfl ⟨w.heap.size, 1, none⟩ rfl (.int .i64 rd) (fun W hW => by have hc := (hW.cell (p := ⟨w.heap.size, 1, none⟩) hlw).trans d1; go_simp) ?_
  quiet_step ((intro hC; exact (HR.out rd (by omega) _).mono (fun e w'' ⟨he, hw⟩ => ⟨he, hw ▸ hC⟩)))
  quiet_step ((intro _; rfl))
  refine wpQuiet_cell rfl 3 _ rfl ⟨w.heap.size, 3, none⟩ rfl (.int .i64 rs2) (fun W hW => by have hc := (hW.cell (p := ⟨w.heap.size, 3, none⟩) hlw).trans d3; go_simp) ?_
  quiet_step ((intro hC; exact (HR.out rs2 (by omega) _).mono (fun e w'' ⟨he, hw⟩ => ⟨he, hw ▸ hC⟩)))
  refine wpQuiet_load_at rfl 23 _ rfl w.heap.size 0 rfl #[.int .i64 op, .int .i64 rd, .int .i64 rs1, .int .i64 rs2, .int .i32 imm] _ (fun W hW => HATI.out.of_lt hW hlw) Tryd.underlying23 rfl (by kernel_rfl) ?_
  quiet_step ((intro hC; exact (HAT0.out _).mono (fun e w'' ⟨he, hb⟩ => ⟨he, hC.trans (hb.mono hC.size)⟩)))
  refine wpQuiet_nil ?_
  intro w9 hb9
  simp only [List.drop_succ_cons, List.drop_zero]
  go_wp2_with fail
  go_ret
  refine ⟨⟨_, rfl, ?_⟩, (HWB.out.trans (hb9.mono HWB.out.size)).alloc (Nat.le_trans HWB.out.size hb9.size) _⟩
  exact SRow.three w9 _ _ _ _
end Go.Proofs.YtlfnddmncbkjaacDoor.W
