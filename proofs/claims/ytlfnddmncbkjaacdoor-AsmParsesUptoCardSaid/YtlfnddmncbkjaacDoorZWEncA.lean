/- decode.Encode, walked, forms 0, 1, 2. -/
import Derived.Test.YtlfnddmncbkjaacDoorZWEncode
namespace Go.Proofs.YtlfnddmncbkjaacDoor.W
set_option linter.unusedVariables false
set_option linter.unusedSimpArgs false
open Go.RowKit Fb
set_option maxRecDepth 100000 in
set_option maxHeartbeats 2000000 in
theorem encode_0 (op l m u rd rs1 rs2 imm c : Int) (w : World) (hop : 1 ≤ op ∧ op ≤ 59) (hrd : 0 ≤ rd ∧ rd < 32) (hr1 : 0 ≤ rs1 ∧ rs1 < 32) (hr2 : 0 ≤ rs2 ∧ rs2 < 32) (hl : 0 ≤ l ∧ l < 128) (hm : 0 ≤ m ∧ m < 8) (hup : 0 ≤ u ∧ u < 32 + 1)
    (HK : Hid (kindOf op = ⟨0, l, m, u⟩)) (HC : Hid (encK ⟨0, l, m, u⟩ rd rs1 rs2 (imm % 4294967296) = c)) :
    Calls Tryd.prog 12 #[.agg #[.int .i64 op, .int .i64 rd, .int .i64 rs1, .int .i64 rs2, .int .i32 imm]] w fun e w' => e = .returned (.tuple #[.int .u32 (if dec c = some ⟨op, rd, rs1, rs2, imm⟩ then c else 0), .int .i64 (if dec c = some ⟨op, rd, rs1, rs2, imm⟩ then 0 else 2)]) ∧ Below w.heap.size w w' := by
  obtain ⟨rc, hrc⟩ : ∃ x, x = (if dec c = some ⟨op, rd, rs1, rs2, imm⟩ then c else 0) := ⟨_, rfl⟩
  obtain ⟨re, hre⟩ : ∃ x : Int, x = (if dec c = some ⟨op, rd, rs1, rs2, imm⟩ then 0 else 2) := ⟨_, rfl⟩
  rw [← hrc, ← hre]
  have HR := Lib.hid (And.intro hrc hre)
  clear hrc hre
  have HUC : Hid (U32 c) := Lib.hid (by rw [← HC.out]; exact encK_u _ _ _ _ _)
  have HN : Hid (U32 (imm % 4294967296)) := Lib.hid (mod_lo _)
  have HOF := Lib.hid (fun W => of_any op W)
  rw [HK.out] at HOF
  rw [show knownOp op = true from by unfold knownOp; simp; omega] at HOF
  simp only [kcells] at HOF
  obtain ⟨d0, d1⟩ := hrd
  obtain ⟨a0, a1⟩ := hr1
  obtain ⟨b0, b1⟩ := hr2
  obtain ⟨l0, l1⟩ := hl
  obtain ⟨m0, m1⟩ := hm
  obtain ⟨u0, u1⟩ := hup
  clear hop
  have ix0 : ∀ W, (Instr.index 47 (.agg #[.int .i64 rd, .int .i64 rs1, .int .i64 rs2]) (.int .i64 0)).run Tryd.prog W = .ok (.int .i64 rd) W := fun _ => by kernel_rfl
  have ix1 : ∀ W, (Instr.index 47 (.agg #[.int .i64 rd, .int .i64 rs1, .int .i64 rs2]) (.int .i64 1)).run Tryd.prog W = .ok (.int .i64 rs1) W := fun _ => by kernel_rfl
  have ix2 : ∀ W, (Instr.index 47 (.agg #[.int .i64 rd, .int .i64 rs1, .int .i64 rs2]) (.int .i64 2)).run Tryd.prog W = .ok (.int .i64 rs2) W := fun _ => by kernel_rfl
  go_enter Tryd.func12, Tryd.ntmps12
  go_wp2_with fail
  refine (HOF.out _).mono ?_
  rintro e w1 ⟨rfl, hb1⟩
  have hblk := (hb1.block w.heap.size (by simp)).trans (heap_alloc_new w (.cells #[.int .i64 op, .int .i64 rd, .int .i64 rs1, .int .i64 rs2, .int .i32 imm] 23))
  have hlt1 : w.heap.size < w1.heap.size := by have := hb1.size; simp at this; omega
  obtain ⟨w2, hw2⟩ : ∃ w2, w2 = w1.alloc (.cells #[.int .i64 0, .int .u32 l, .int .u32 m, .int .u32 u] 44) := ⟨_, rfl⟩
  have k0 : w2.cell? ⟨w.heap.size, 0, none⟩ = some (.int .i64 op) := by rw [hw2]; exact (World.cell?_alloc_lt w1 _ _ hlt1).trans (cell_blk hblk rfl)
  have k1 : w2.cell? ⟨w.heap.size, 1, none⟩ = some (.int .i64 rd) := by rw [hw2]; exact (World.cell?_alloc_lt w1 _ _ hlt1).trans (cell_blk hblk rfl)
  have k2 : w2.cell? ⟨w.heap.size, 2, none⟩ = some (.int .i64 rs1) := by rw [hw2]; exact (World.cell?_alloc_lt w1 _ _ hlt1).trans (cell_blk hblk rfl)
  have k3 : w2.cell? ⟨w.heap.size, 3, none⟩ = some (.int .i64 rs2) := by rw [hw2]; exact (World.cell?_alloc_lt w1 _ _ hlt1).trans (cell_blk hblk rfl)
  have k4 : w2.cell? ⟨w.heap.size, 4, none⟩ = some (.int .i32 imm) := by rw [hw2]; exact (World.cell?_alloc_lt w1 _ _ hlt1).trans (cell_blk hblk rfl)
  have n0 : w2.cell? ⟨w1.heap.size, 0, none⟩ = some (.int .i64 0) := by rw [hw2]; go_cell
  have n1 : w2.cell? ⟨w1.heap.size, 1, none⟩ = some (.int .u32 l) := by rw [hw2]; go_cell
  have n2 : w2.cell? ⟨w1.heap.size, 2, none⟩ = some (.int .u32 m) := by rw [hw2]; go_cell
  have n3 : w2.cell? ⟨w1.heap.size, 3, none⟩ = some (.int .u32 u) := by rw [hw2]; go_cell
  have hb2 : Below w.heap.size w w2 := by rw [hw2]; exact (Below.trans (Below.alloc (Below.refl _ _) (Nat.le_refl _) _) (hb1.mono (by simp))).trans (Below.alloc (Below.refl _ _) (Nat.le_of_lt hlt1) _)
  have hlt2 : w.heap.size < w2.heap.size := by rw [hw2]; simp; omega
  have HB2 := Lib.hid hb2
  have HLT := Lib.hid hlt2
  have HW2 := Lib.hid hw2
  clear hblk hb1 hlt1 hb2 hlt2 hw2 HOF
  go_upto_region 2 with (fail)
  rw [← HW2.out]
  go_wp2_with fail
  (refine wp_loop_rounds 4 ?_; repeat any_goals (rw [rounds_succ]; go_wp2_with (fail)))
  refine (decode_as2 w2 _ _ c ?hb ?he HUC.out).mono ?_
  case hb => first | exact Below.refl _ _ | exact below_drewN (Below.refl _ _) _ | exact below_drewN (below_drewN (Below.refl _ _) _) _
  case he => first | exact HC.out | (rw [← HC.out]; rfl) | (rw [← HC.out, andNot12 _ HN.out]; rfl) | (rw [← HC.out]; simp [encK, baseW, orw])
  rintro e w3 ⟨rfl, hb3⟩
  have g0 := (hb3.cell (p := ⟨w.heap.size, 0, none⟩) HLT.out).trans k0
  have g1 := (hb3.cell (p := ⟨w.heap.size, 1, none⟩) HLT.out).trans k1
  have g2 := (hb3.cell (p := ⟨w.heap.size, 2, none⟩) HLT.out).trans k2
  have g3 := (hb3.cell (p := ⟨w.heap.size, 3, none⟩) HLT.out).trans k3
  have g4 := (hb3.cell (p := ⟨w.heap.size, 4, none⟩) HLT.out).trans k4
  have hb4 : Below w.heap.size w w3 := HB2.out.trans (hb3.mono (Nat.le_of_lt HLT.out))
  have hlt3 : w.heap.size < w3.heap.size := Nat.lt_of_lt_of_le HLT.out hb3.size
  clear k0 k1 k2 k3 k4 n0 n1 n2 n3 hb3
  obtain ⟨j, hj⟩ : ∃ j, j = (dec c).getD i0 := ⟨_, rfl⟩
  have HJ : Hid (rc = (if ((dec c).isSome && decide (j = ⟨op, rd, rs1, rs2, imm⟩)) = true then c else 0) ∧ re = (if ((dec c).isSome && decide (j = ⟨op, rd, rs1, rs2, imm⟩)) = true then 0 else 2)) := Lib.hid (by
    rw [HR.out.1, HR.out.2]
    subst hj
    cases dec c with
    | none => simp
    | some x => simp)
  rw [← hj]
  clear hj HR HUC
  generalize (dec c).isSome = ok at *
  obtain ⟨q1, q2, q3, q4, q5⟩ := j
  simp only [icells]
  obtain ⟨w4, hw4⟩ : ∃ w4, w4 = w3.alloc (.cells #[.int .i64 q1, .int .i64 q2, .int .i64 q3, .int .i64 q4, .int .i32 q5] 23) := ⟨_, rfl⟩
  have p0 : w4.cell? ⟨w.heap.size, 0, none⟩ = some (.int .i64 op) := by rw [hw4]; exact (World.cell?_alloc_lt w3 _ _ hlt3).trans g0
  have p1 : w4.cell? ⟨w.heap.size, 1, none⟩ = some (.int .i64 rd) := by rw [hw4]; exact (World.cell?_alloc_lt w3 _ _ hlt3).trans g1
  have p2 : w4.cell? ⟨w.heap.size, 2, none⟩ = some (.int .i64 rs1) := by rw [hw4]; exact (World.cell?_alloc_lt w3 _ _ hlt3).trans g2
  have p3 : w4.cell? ⟨w.heap.size, 3, none⟩ = some (.int .i64 rs2) := by rw [hw4]; exact (World.cell?_alloc_lt w3 _ _ hlt3).trans g3
  have p4 : w4.cell? ⟨w.heap.size, 4, none⟩ = some (.int .i32 imm) := by rw [hw4]; exact (World.cell?_alloc_lt w3 _ _ hlt3).trans g4
  have r0 : w4.cell? ⟨w3.heap.size, 0, none⟩ = some (.int .i64 q1) := by rw [hw4]; go_cell
  have r1 : w4.cell? ⟨w3.heap.size, 1, none⟩ = some (.int .i64 q2) := by rw [hw4]; go_cell
  have r2 : w4.cell? ⟨w3.heap.size, 2, none⟩ = some (.int .i64 q3) := by rw [hw4]; go_cell
  have r3 : w4.cell? ⟨w3.heap.size, 3, none⟩ = some (.int .i64 q4) := by rw [hw4]; go_cell
  have r4 : w4.cell? ⟨w3.heap.size, 4, none⟩ = some (.int .i32 q5) := by rw [hw4]; go_cell
  have hb5 : Below w.heap.size w w4 := by rw [hw4]; exact hb4.trans (Below.alloc (Below.refl _ _) (Nat.le_of_lt hlt3) _)
  have hg : Tryd.prog.eqGuardType Tryd.prog.depth 23 = false := by kernel_rfl
  have HW4 := Lib.hid hw4
  clear hw4 g0 g1 g2 g3 g4 hb4 hlt3
  go_upto_region 31 with (fail)
  rw [← HW4.out]
  cases ok with
  | false =>
    go_wp2_with fail
    go_ret2
    exact ⟨by rw [HJ.out.1, HJ.out.2]; rfl, hb5⟩
  | true =>
    go_wp2_with fail
    all_goals go_ret2
    all_goals refine ⟨?_, hb5⟩
    all_goals clear p0 p1 p2 p3 p4 r0 r1 r2 r3 r4 hb5 hg ix0 ix1 ix2 HW4 HW2 HB2 HLT
    all_goals first
      | (have e1 : rc = c := by rw [HJ.out.1, if_pos (by simp [*])]
         have e2 : re = 0 := by rw [HJ.out.2, if_pos (by simp [*])]
         rw [e1, e2, ← HC.out]
         first | rfl | (rw [andNot12 _ HN.out]; rfl) | (simp [encK, baseW, orw]; done))
      | (have e1 : rc = 0 := by rw [HJ.out.1, if_neg (by simp [*])]
         have e2 : re = 2 := by rw [HJ.out.2, if_neg (by simp [*])]
         rw [e1, e2]
         rfl)
set_option maxRecDepth 100000 in
set_option maxHeartbeats 2000000 in
theorem encode_1 (op l m u rd rs1 rs2 imm c : Int) (w : World) (hop : 1 ≤ op ∧ op ≤ 59) (hrd : 0 ≤ rd ∧ rd < 32) (hr1 : 0 ≤ rs1 ∧ rs1 < 32) (hr2 : 0 ≤ rs2 ∧ rs2 < 32) (hl : 0 ≤ l ∧ l < 128) (hm : 0 ≤ m ∧ m < 8) (hup : 0 ≤ u ∧ u < 32 + 1)
    (HK : Hid (kindOf op = ⟨1, l, m, u⟩)) (HC : Hid (encK ⟨1, l, m, u⟩ rd rs1 rs2 (imm % 4294967296) = c)) :
    Calls Tryd.prog 12 #[.agg #[.int .i64 op, .int .i64 rd, .int .i64 rs1, .int .i64 rs2, .int .i32 imm]] w fun e w' => e = .returned (.tuple #[.int .u32 (if dec c = some ⟨op, rd, rs1, rs2, imm⟩ then c else 0), .int .i64 (if dec c = some ⟨op, rd, rs1, rs2, imm⟩ then 0 else 2)]) ∧ Below w.heap.size w w' := by
  obtain ⟨rc, hrc⟩ : ∃ x, x = (if dec c = some ⟨op, rd, rs1, rs2, imm⟩ then c else 0) := ⟨_, rfl⟩
  obtain ⟨re, hre⟩ : ∃ x : Int, x = (if dec c = some ⟨op, rd, rs1, rs2, imm⟩ then 0 else 2) := ⟨_, rfl⟩
  rw [← hrc, ← hre]
  have HR := Lib.hid (And.intro hrc hre)
  clear hrc hre
  have HUC : Hid (U32 c) := Lib.hid (by rw [← HC.out]; exact encK_u _ _ _ _ _)
  have HN : Hid (U32 (imm % 4294967296)) := Lib.hid (mod_lo _)
  have HOF := Lib.hid (fun W => of_any op W)
  rw [HK.out] at HOF
  rw [show knownOp op = true from by unfold knownOp; simp; omega] at HOF
  simp only [kcells] at HOF
  obtain ⟨d0, d1⟩ := hrd
  obtain ⟨a0, a1⟩ := hr1
  obtain ⟨b0, b1⟩ := hr2
  obtain ⟨l0, l1⟩ := hl
  obtain ⟨m0, m1⟩ := hm
  obtain ⟨u0, u1⟩ := hup
  clear hop
  have ix0 : ∀ W, (Instr.index 47 (.agg #[.int .i64 rd, .int .i64 rs1, .int .i64 rs2]) (.int .i64 0)).run Tryd.prog W = .ok (.int .i64 rd) W := fun _ => by kernel_rfl
  have ix1 : ∀ W, (Instr.index 47 (.agg #[.int .i64 rd, .int .i64 rs1, .int .i64 rs2]) (.int .i64 1)).run Tryd.prog W = .ok (.int .i64 rs1) W := fun _ => by kernel_rfl
  have ix2 : ∀ W, (Instr.index 47 (.agg #[.int .i64 rd, .int .i64 rs1, .int .i64 rs2]) (.int .i64 2)).run Tryd.prog W = .ok (.int .i64 rs2) W := fun _ => by kernel_rfl
  go_enter Tryd.func12, Tryd.ntmps12
  go_wp2_with fail
  refine (HOF.out _).mono ?_
  rintro e w1 ⟨rfl, hb1⟩
  have hblk := (hb1.block w.heap.size (by simp)).trans (heap_alloc_new w (.cells #[.int .i64 op, .int .i64 rd, .int .i64 rs1, .int .i64 rs2, .int .i32 imm] 23))
  have hlt1 : w.heap.size < w1.heap.size := by have := hb1.size; simp at this; omega
  obtain ⟨w2, hw2⟩ : ∃ w2, w2 = w1.alloc (.cells #[.int .i64 1, .int .u32 l, .int .u32 m, .int .u32 u] 44) := ⟨_, rfl⟩
  have k0 : w2.cell? ⟨w.heap.size, 0, none⟩ = some (.int .i64 op) := by rw [hw2]; exact (World.cell?_alloc_lt w1 _ _ hlt1).trans (cell_blk hblk rfl)
  have k1 : w2.cell? ⟨w.heap.size, 1, none⟩ = some (.int .i64 rd) := by rw [hw2]; exact (World.cell?_alloc_lt w1 _ _ hlt1).trans (cell_blk hblk rfl)
  have k2 : w2.cell? ⟨w.heap.size, 2, none⟩ = some (.int .i64 rs1) := by rw [hw2]; exact (World.cell?_alloc_lt w1 _ _ hlt1).trans (cell_blk hblk rfl)
  have k3 : w2.cell? ⟨w.heap.size, 3, none⟩ = some (.int .i64 rs2) := by rw [hw2]; exact (World.cell?_alloc_lt w1 _ _ hlt1).trans (cell_blk hblk rfl)
  have k4 : w2.cell? ⟨w.heap.size, 4, none⟩ = some (.int .i32 imm) := by rw [hw2]; exact (World.cell?_alloc_lt w1 _ _ hlt1).trans (cell_blk hblk rfl)
  have n0 : w2.cell? ⟨w1.heap.size, 0, none⟩ = some (.int .i64 1) := by rw [hw2]; go_cell
  have n1 : w2.cell? ⟨w1.heap.size, 1, none⟩ = some (.int .u32 l) := by rw [hw2]; go_cell
  have n2 : w2.cell? ⟨w1.heap.size, 2, none⟩ = some (.int .u32 m) := by rw [hw2]; go_cell
  have n3 : w2.cell? ⟨w1.heap.size, 3, none⟩ = some (.int .u32 u) := by rw [hw2]; go_cell
  have hb2 : Below w.heap.size w w2 := by rw [hw2]; exact (Below.trans (Below.alloc (Below.refl _ _) (Nat.le_refl _) _) (hb1.mono (by simp))).trans (Below.alloc (Below.refl _ _) (Nat.le_of_lt hlt1) _)
  have hlt2 : w.heap.size < w2.heap.size := by rw [hw2]; simp; omega
  have HB2 := Lib.hid hb2
  have HLT := Lib.hid hlt2
  have HW2 := Lib.hid hw2
  clear hblk hb1 hlt1 hb2 hlt2 hw2 HOF
  go_upto_region 2 with (fail)
  rw [← HW2.out]
  go_wp2_with fail
  (refine wp_loop_rounds 4 ?_; repeat any_goals (rw [rounds_succ]; go_wp2_with (go_at_call 23; first | ((with_reducible refine (cut_20_20 _ _ HN.out).mono ?_); rintro e w' ⟨rfl, nn, rfl⟩) | ((with_reducible refine (cut_12_19 _ _ HN.out).mono ?_); rintro e w' ⟨rfl, nn, rfl⟩) | ((with_reducible refine (cut_11_11 _ _ HN.out).mono ?_); rintro e w' ⟨rfl, nn, rfl⟩) | ((with_reducible refine (cut_1_10 _ _ HN.out).mono ?_); rintro e w' ⟨rfl, nn, rfl⟩) | ((with_reducible refine (cut_0_11 _ _ HN.out).mono ?_); rintro e w' ⟨rfl, nn, rfl⟩) | ((with_reducible refine (cut_0_4 _ _ HN.out).mono ?_); rintro e w' ⟨rfl, nn, rfl⟩) | ((with_reducible refine (cut_12_12 _ _ HN.out).mono ?_); rintro e w' ⟨rfl, nn, rfl⟩) | ((with_reducible refine (cut_5_10 _ _ HN.out).mono ?_); rintro e w' ⟨rfl, nn, rfl⟩) | ((with_reducible refine (cut_1_4 _ _ HN.out).mono ?_); rintro e w' ⟨rfl, nn, rfl⟩) | ((with_reducible refine (cut_5_11 _ _ HN.out).mono ?_); rintro e w' ⟨rfl, nn, rfl⟩) | ((with_reducible refine (cut_0_1 _ _ HN.out).mono ?_); rintro e w' ⟨rfl, nn, rfl⟩))))
  refine (decode_as2 w2 _ _ c ?hb ?he HUC.out).mono ?_
  case hb => first | exact Below.refl _ _ | exact below_drewN (Below.refl _ _) _ | exact below_drewN (below_drewN (Below.refl _ _) _) _
  case he => first | exact HC.out | (rw [← HC.out]; rfl) | (rw [← HC.out, andNot12 _ HN.out]; rfl) | (rw [← HC.out]; simp [encK, baseW, orw])
  rintro e w3 ⟨rfl, hb3⟩
  have g0 := (hb3.cell (p := ⟨w.heap.size, 0, none⟩) HLT.out).trans k0
  have g1 := (hb3.cell (p := ⟨w.heap.size, 1, none⟩) HLT.out).trans k1
  have g2 := (hb3.cell (p := ⟨w.heap.size, 2, none⟩) HLT.out).trans k2
  have g3 := (hb3.cell (p := ⟨w.heap.size, 3, none⟩) HLT.out).trans k3
  have g4 := (hb3.cell (p := ⟨w.heap.size, 4, none⟩) HLT.out).trans k4
  have hb4 : Below w.heap.size w w3 := HB2.out.trans (hb3.mono (Nat.le_of_lt HLT.out))
  have hlt3 : w.heap.size < w3.heap.size := Nat.lt_of_lt_of_le HLT.out hb3.size
  clear k0 k1 k2 k3 k4 n0 n1 n2 n3 hb3
  obtain ⟨j, hj⟩ : ∃ j, j = (dec c).getD i0 := ⟨_, rfl⟩
  have HJ : Hid (rc = (if ((dec c).isSome && decide (j = ⟨op, rd, rs1, rs2, imm⟩)) = true then c else 0) ∧ re = (if ((dec c).isSome && decide (j = ⟨op, rd, rs1, rs2, imm⟩)) = true then 0 else 2)) := Lib.hid (by
    rw [HR.out.1, HR.out.2]
    subst hj
    cases dec c with
    | none => simp
    | some x => simp)
  rw [← hj]
  clear hj HR HUC
  generalize (dec c).isSome = ok at *
  obtain ⟨q1, q2, q3, q4, q5⟩ := j
  simp only [icells]
  obtain ⟨w4, hw4⟩ : ∃ w4, w4 = w3.alloc (.cells #[.int .i64 q1, .int .i64 q2, .int .i64 q3, .int .i64 q4, .int .i32 q5] 23) := ⟨_, rfl⟩
  have p0 : w4.cell? ⟨w.heap.size, 0, none⟩ = some (.int .i64 op) := by rw [hw4]; exact (World.cell?_alloc_lt w3 _ _ hlt3).trans g0
  have p1 : w4.cell? ⟨w.heap.size, 1, none⟩ = some (.int .i64 rd) := by rw [hw4]; exact (World.cell?_alloc_lt w3 _ _ hlt3).trans g1
  have p2 : w4.cell? ⟨w.heap.size, 2, none⟩ = some (.int .i64 rs1) := by rw [hw4]; exact (World.cell?_alloc_lt w3 _ _ hlt3).trans g2
  have p3 : w4.cell? ⟨w.heap.size, 3, none⟩ = some (.int .i64 rs2) := by rw [hw4]; exact (World.cell?_alloc_lt w3 _ _ hlt3).trans g3
  have p4 : w4.cell? ⟨w.heap.size, 4, none⟩ = some (.int .i32 imm) := by rw [hw4]; exact (World.cell?_alloc_lt w3 _ _ hlt3).trans g4
  have r0 : w4.cell? ⟨w3.heap.size, 0, none⟩ = some (.int .i64 q1) := by rw [hw4]; go_cell
  have r1 : w4.cell? ⟨w3.heap.size, 1, none⟩ = some (.int .i64 q2) := by rw [hw4]; go_cell
  have r2 : w4.cell? ⟨w3.heap.size, 2, none⟩ = some (.int .i64 q3) := by rw [hw4]; go_cell
  have r3 : w4.cell? ⟨w3.heap.size, 3, none⟩ = some (.int .i64 q4) := by rw [hw4]; go_cell
  have r4 : w4.cell? ⟨w3.heap.size, 4, none⟩ = some (.int .i32 q5) := by rw [hw4]; go_cell
  have hb5 : Below w.heap.size w w4 := by rw [hw4]; exact hb4.trans (Below.alloc (Below.refl _ _) (Nat.le_of_lt hlt3) _)
  have hg : Tryd.prog.eqGuardType Tryd.prog.depth 23 = false := by kernel_rfl
  have HW4 := Lib.hid hw4
  clear hw4 g0 g1 g2 g3 g4 hb4 hlt3
  go_upto_region 31 with (fail)
  rw [← HW4.out]
  cases ok with
  | false =>
    go_wp2_with fail
    go_ret2
    exact ⟨by rw [HJ.out.1, HJ.out.2]; rfl, hb5⟩
  | true =>
    go_wp2_with fail
    all_goals go_ret2
    all_goals refine ⟨?_, hb5⟩
    all_goals clear p0 p1 p2 p3 p4 r0 r1 r2 r3 r4 hb5 hg ix0 ix1 ix2 HW4 HW2 HB2 HLT
    all_goals first
      | (have e1 : rc = c := by rw [HJ.out.1, if_pos (by simp [*])]
         have e2 : re = 0 := by rw [HJ.out.2, if_pos (by simp [*])]
         rw [e1, e2, ← HC.out]
         first | rfl | (rw [andNot12 _ HN.out]; rfl) | (simp [encK, baseW, orw]; done))
      | (have e1 : rc = 0 := by rw [HJ.out.1, if_neg (by simp [*])]
         have e2 : re = 2 := by rw [HJ.out.2, if_neg (by simp [*])]
         rw [e1, e2]
         rfl)
set_option maxRecDepth 100000 in
set_option maxHeartbeats 2000000 in
theorem encode_2 (op l m u rd rs1 rs2 imm c : Int) (w : World) (hop : 1 ≤ op ∧ op ≤ 59) (hrd : 0 ≤ rd ∧ rd < 32) (hr1 : 0 ≤ rs1 ∧ rs1 < 32) (hr2 : 0 ≤ rs2 ∧ rs2 < 32) (hl : 0 ≤ l ∧ l < 128) (hm : 0 ≤ m ∧ m < 8) (hup : 0 ≤ u ∧ u < 32 + 1)
    (HK : Hid (kindOf op = ⟨2, l, m, u⟩)) (HC : Hid (encK ⟨2, l, m, u⟩ rd rs1 rs2 (imm % 4294967296) = c)) :
    Calls Tryd.prog 12 #[.agg #[.int .i64 op, .int .i64 rd, .int .i64 rs1, .int .i64 rs2, .int .i32 imm]] w fun e w' => e = .returned (.tuple #[.int .u32 (if dec c = some ⟨op, rd, rs1, rs2, imm⟩ then c else 0), .int .i64 (if dec c = some ⟨op, rd, rs1, rs2, imm⟩ then 0 else 2)]) ∧ Below w.heap.size w w' := by
  obtain ⟨rc, hrc⟩ : ∃ x, x = (if dec c = some ⟨op, rd, rs1, rs2, imm⟩ then c else 0) := ⟨_, rfl⟩
  obtain ⟨re, hre⟩ : ∃ x : Int, x = (if dec c = some ⟨op, rd, rs1, rs2, imm⟩ then 0 else 2) := ⟨_, rfl⟩
  rw [← hrc, ← hre]
  have HR := Lib.hid (And.intro hrc hre)
  clear hrc hre
  have HUC : Hid (U32 c) := Lib.hid (by rw [← HC.out]; exact encK_u _ _ _ _ _)
  have HN : Hid (U32 (imm % 4294967296)) := Lib.hid (mod_lo _)
  have HOF := Lib.hid (fun W => of_any op W)
  rw [HK.out] at HOF
  rw [show knownOp op = true from by unfold knownOp; simp; omega] at HOF
  simp only [kcells] at HOF
  obtain ⟨d0, d1⟩ := hrd
  obtain ⟨a0, a1⟩ := hr1
  obtain ⟨b0, b1⟩ := hr2
  obtain ⟨l0, l1⟩ := hl
  obtain ⟨m0, m1⟩ := hm
  obtain ⟨u0, u1⟩ := hup
  clear hop
  have ix0 : ∀ W, (Instr.index 47 (.agg #[.int .i64 rd, .int .i64 rs1, .int .i64 rs2]) (.int .i64 0)).run Tryd.prog W = .ok (.int .i64 rd) W := fun _ => by kernel_rfl
  have ix1 : ∀ W, (Instr.index 47 (.agg #[.int .i64 rd, .int .i64 rs1, .int .i64 rs2]) (.int .i64 1)).run Tryd.prog W = .ok (.int .i64 rs1) W := fun _ => by kernel_rfl
  have ix2 : ∀ W, (Instr.index 47 (.agg #[.int .i64 rd, .int .i64 rs1, .int .i64 rs2]) (.int .i64 2)).run Tryd.prog W = .ok (.int .i64 rs2) W := fun _ => by kernel_rfl
  go_enter Tryd.func12, Tryd.ntmps12
  go_wp2_with fail
  refine (HOF.out _).mono ?_
  rintro e w1 ⟨rfl, hb1⟩
  have hblk := (hb1.block w.heap.size (by simp)).trans (heap_alloc_new w (.cells #[.int .i64 op, .int .i64 rd, .int .i64 rs1, .int .i64 rs2, .int .i32 imm] 23))
  have hlt1 : w.heap.size < w1.heap.size := by have := hb1.size; simp at this; omega
  obtain ⟨w2, hw2⟩ : ∃ w2, w2 = w1.alloc (.cells #[.int .i64 2, .int .u32 l, .int .u32 m, .int .u32 u] 44) := ⟨_, rfl⟩
  have k0 : w2.cell? ⟨w.heap.size, 0, none⟩ = some (.int .i64 op) := by rw [hw2]; exact (World.cell?_alloc_lt w1 _ _ hlt1).trans (cell_blk hblk rfl)
  have k1 : w2.cell? ⟨w.heap.size, 1, none⟩ = some (.int .i64 rd) := by rw [hw2]; exact (World.cell?_alloc_lt w1 _ _ hlt1).trans (cell_blk hblk rfl)
  have k2 : w2.cell? ⟨w.heap.size, 2, none⟩ = some (.int .i64 rs1) := by rw [hw2]; exact (World.cell?_alloc_lt w1 _ _ hlt1).trans (cell_blk hblk rfl)
  have k3 : w2.cell? ⟨w.heap.size, 3, none⟩ = some (.int .i64 rs2) := by rw [hw2]; exact (World.cell?_alloc_lt w1 _ _ hlt1).trans (cell_blk hblk rfl)
  have k4 : w2.cell? ⟨w.heap.size, 4, none⟩ = some (.int .i32 imm) := by rw [hw2]; exact (World.cell?_alloc_lt w1 _ _ hlt1).trans (cell_blk hblk rfl)
  have n0 : w2.cell? ⟨w1.heap.size, 0, none⟩ = some (.int .i64 2) := by rw [hw2]; go_cell
  have n1 : w2.cell? ⟨w1.heap.size, 1, none⟩ = some (.int .u32 l) := by rw [hw2]; go_cell
  have n2 : w2.cell? ⟨w1.heap.size, 2, none⟩ = some (.int .u32 m) := by rw [hw2]; go_cell
  have n3 : w2.cell? ⟨w1.heap.size, 3, none⟩ = some (.int .u32 u) := by rw [hw2]; go_cell
  have hb2 : Below w.heap.size w w2 := by rw [hw2]; exact (Below.trans (Below.alloc (Below.refl _ _) (Nat.le_refl _) _) (hb1.mono (by simp))).trans (Below.alloc (Below.refl _ _) (Nat.le_of_lt hlt1) _)
  have hlt2 : w.heap.size < w2.heap.size := by rw [hw2]; simp; omega
  have HB2 := Lib.hid hb2
  have HLT := Lib.hid hlt2
  have HW2 := Lib.hid hw2
  clear hblk hb1 hlt1 hb2 hlt2 hw2 HOF
  go_upto_region 2 with (fail)
  rw [← HW2.out]
  go_wp2_with fail
  (refine wp_loop_rounds 4 ?_; repeat any_goals (rw [rounds_succ]; go_wp2_with (go_at_call 23; first | ((with_reducible refine (cut_20_20 _ _ HN.out).mono ?_); rintro e w' ⟨rfl, nn, rfl⟩) | ((with_reducible refine (cut_12_19 _ _ HN.out).mono ?_); rintro e w' ⟨rfl, nn, rfl⟩) | ((with_reducible refine (cut_11_11 _ _ HN.out).mono ?_); rintro e w' ⟨rfl, nn, rfl⟩) | ((with_reducible refine (cut_1_10 _ _ HN.out).mono ?_); rintro e w' ⟨rfl, nn, rfl⟩) | ((with_reducible refine (cut_0_11 _ _ HN.out).mono ?_); rintro e w' ⟨rfl, nn, rfl⟩) | ((with_reducible refine (cut_0_4 _ _ HN.out).mono ?_); rintro e w' ⟨rfl, nn, rfl⟩) | ((with_reducible refine (cut_12_12 _ _ HN.out).mono ?_); rintro e w' ⟨rfl, nn, rfl⟩) | ((with_reducible refine (cut_5_10 _ _ HN.out).mono ?_); rintro e w' ⟨rfl, nn, rfl⟩) | ((with_reducible refine (cut_1_4 _ _ HN.out).mono ?_); rintro e w' ⟨rfl, nn, rfl⟩) | ((with_reducible refine (cut_5_11 _ _ HN.out).mono ?_); rintro e w' ⟨rfl, nn, rfl⟩) | ((with_reducible refine (cut_0_1 _ _ HN.out).mono ?_); rintro e w' ⟨rfl, nn, rfl⟩))))
  refine (decode_as2 w2 _ _ c ?hb ?he HUC.out).mono ?_
  case hb => first | exact Below.refl _ _ | exact below_drewN (Below.refl _ _) _ | exact below_drewN (below_drewN (Below.refl _ _) _) _
  case he => first | exact HC.out | (rw [← HC.out]; rfl) | (rw [← HC.out, andNot12 _ HN.out]; rfl) | (rw [← HC.out]; simp [encK, baseW, orw])
  rintro e w3 ⟨rfl, hb3⟩
  have g0 := (hb3.cell (p := ⟨w.heap.size, 0, none⟩) HLT.out).trans k0
  have g1 := (hb3.cell (p := ⟨w.heap.size, 1, none⟩) HLT.out).trans k1
  have g2 := (hb3.cell (p := ⟨w.heap.size, 2, none⟩) HLT.out).trans k2
  have g3 := (hb3.cell (p := ⟨w.heap.size, 3, none⟩) HLT.out).trans k3
  have g4 := (hb3.cell (p := ⟨w.heap.size, 4, none⟩) HLT.out).trans k4
  have hb4 : Below w.heap.size w w3 := HB2.out.trans (hb3.mono (Nat.le_of_lt HLT.out))
  have hlt3 : w.heap.size < w3.heap.size := Nat.lt_of_lt_of_le HLT.out hb3.size
  clear k0 k1 k2 k3 k4 n0 n1 n2 n3 hb3
  obtain ⟨j, hj⟩ : ∃ j, j = (dec c).getD i0 := ⟨_, rfl⟩
  have HJ : Hid (rc = (if ((dec c).isSome && decide (j = ⟨op, rd, rs1, rs2, imm⟩)) = true then c else 0) ∧ re = (if ((dec c).isSome && decide (j = ⟨op, rd, rs1, rs2, imm⟩)) = true then 0 else 2)) := Lib.hid (by
    rw [HR.out.1, HR.out.2]
    subst hj
    cases dec c with
    | none => simp
    | some x => simp)
  rw [← hj]
  clear hj HR HUC
  generalize (dec c).isSome = ok at *
  obtain ⟨q1, q2, q3, q4, q5⟩ := j
  simp only [icells]
  obtain ⟨w4, hw4⟩ : ∃ w4, w4 = w3.alloc (.cells #[.int .i64 q1, .int .i64 q2, .int .i64 q3, .int .i64 q4, .int .i32 q5] 23) := ⟨_, rfl⟩
  have p0 : w4.cell? ⟨w.heap.size, 0, none⟩ = some (.int .i64 op) := by rw [hw4]; exact (World.cell?_alloc_lt w3 _ _ hlt3).trans g0
  have p1 : w4.cell? ⟨w.heap.size, 1, none⟩ = some (.int .i64 rd) := by rw [hw4]; exact (World.cell?_alloc_lt w3 _ _ hlt3).trans g1
  have p2 : w4.cell? ⟨w.heap.size, 2, none⟩ = some (.int .i64 rs1) := by rw [hw4]; exact (World.cell?_alloc_lt w3 _ _ hlt3).trans g2
  have p3 : w4.cell? ⟨w.heap.size, 3, none⟩ = some (.int .i64 rs2) := by rw [hw4]; exact (World.cell?_alloc_lt w3 _ _ hlt3).trans g3
  have p4 : w4.cell? ⟨w.heap.size, 4, none⟩ = some (.int .i32 imm) := by rw [hw4]; exact (World.cell?_alloc_lt w3 _ _ hlt3).trans g4
  have r0 : w4.cell? ⟨w3.heap.size, 0, none⟩ = some (.int .i64 q1) := by rw [hw4]; go_cell
  have r1 : w4.cell? ⟨w3.heap.size, 1, none⟩ = some (.int .i64 q2) := by rw [hw4]; go_cell
  have r2 : w4.cell? ⟨w3.heap.size, 2, none⟩ = some (.int .i64 q3) := by rw [hw4]; go_cell
  have r3 : w4.cell? ⟨w3.heap.size, 3, none⟩ = some (.int .i64 q4) := by rw [hw4]; go_cell
  have r4 : w4.cell? ⟨w3.heap.size, 4, none⟩ = some (.int .i32 q5) := by rw [hw4]; go_cell
  have hb5 : Below w.heap.size w w4 := by rw [hw4]; exact hb4.trans (Below.alloc (Below.refl _ _) (Nat.le_of_lt hlt3) _)
  have hg : Tryd.prog.eqGuardType Tryd.prog.depth 23 = false := by kernel_rfl
  have HW4 := Lib.hid hw4
  clear hw4 g0 g1 g2 g3 g4 hb4 hlt3
  go_upto_region 31 with (fail)
  rw [← HW4.out]
  cases ok with
  | false =>
    go_wp2_with fail
    go_ret2
    exact ⟨by rw [HJ.out.1, HJ.out.2]; rfl, hb5⟩
  | true =>
    go_wp2_with fail
    all_goals go_ret2
    all_goals refine ⟨?_, hb5⟩
    all_goals clear p0 p1 p2 p3 p4 r0 r1 r2 r3 r4 hb5 hg ix0 ix1 ix2 HW4 HW2 HB2 HLT
    all_goals first
      | (have e1 : rc = c := by rw [HJ.out.1, if_pos (by simp [*])]
         have e2 : re = 0 := by rw [HJ.out.2, if_pos (by simp [*])]
         rw [e1, e2, ← HC.out]
         first | rfl | (rw [andNot12 _ HN.out]; rfl) | (simp [encK, baseW, orw]; done))
      | (have e1 : rc = 0 := by rw [HJ.out.1, if_neg (by simp [*])]
         have e2 : re = 2 := by rw [HJ.out.2, if_neg (by simp [*])]
         rw [e1, e2]
         rfl)
end Go.Proofs.YtlfnddmncbkjaacDoor.W
