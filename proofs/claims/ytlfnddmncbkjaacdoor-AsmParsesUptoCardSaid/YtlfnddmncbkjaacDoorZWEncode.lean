/- decode.Encode, walked. -/
import Derived.Test.YtlfnddmncbkjaacDoorZFbEnc
import Derived.Test.YtlfnddmncbkjaacDoorZWDecode
namespace Go.Proofs.YtlfnddmncbkjaacDoor.W
set_option linter.unusedVariables false
set_option linter.unusedSimpArgs false
open Go.RowKit Fb
set_option maxRecDepth 100000 in
set_option maxHeartbeats 2000000 in
theorem encode_no (op rd rs1 rs2 imm : Int) (w : World) (h : ¬ (1 ≤ op ∧ op ≤ 59 ∧ 0 ≤ rd ∧ rd < 32 ∧ 0 ≤ rs1 ∧ rs1 < 32 ∧ 0 ≤ rs2 ∧ rs2 < 32)) :
    Calls Tryd.prog 12 #[.agg #[.int .i64 op, .int .i64 rd, .int .i64 rs1, .int .i64 rs2, .int .i32 imm]] w fun e w' => e = .returned (.tuple #[.int .u32 0, .int .i64 2]) ∧ Below w.heap.size w w' := by
  have hc : knownOp op = false ∨ (knownOp op = true ∧ rd < 0) ∨ (knownOp op = true ∧ 0 ≤ rd ∧ 32 ≤ rd) ∨ (knownOp op = true ∧ 0 ≤ rd ∧ rd < 32 ∧ rs1 < 0) ∨ (knownOp op = true ∧ 0 ≤ rd ∧ rd < 32 ∧ 0 ≤ rs1 ∧ 32 ≤ rs1) ∨ (knownOp op = true ∧ 0 ≤ rd ∧ rd < 32 ∧ 0 ≤ rs1 ∧ rs1 < 32 ∧ rs2 < 0) ∨ (knownOp op = true ∧ 0 ≤ rd ∧ rd < 32 ∧ 0 ≤ rs1 ∧ rs1 < 32 ∧ 0 ≤ rs2 ∧ 32 ≤ rs2) := by
    unfold knownOp
    simp only [decide_eq_true_eq, decide_eq_false_iff_not]
    omega
  clear h
  have HOF := Lib.hid (fun W => of_any op W)
  generalize knownOp op = kn at *
  generalize kindOf op = kd at *
  obtain ⟨f, l, m, u⟩ := kd
  simp only [kcells] at HOF
  have ix0 : ∀ W, (Instr.index 47 (.agg #[.int .i64 rd, .int .i64 rs1, .int .i64 rs2]) (.int .i64 0)).run Tryd.prog W = .ok (.int .i64 rd) W := fun _ => by kernel_rfl
  have ix1 : ∀ W, (Instr.index 47 (.agg #[.int .i64 rd, .int .i64 rs1, .int .i64 rs2]) (.int .i64 1)).run Tryd.prog W = .ok (.int .i64 rs1) W := fun _ => by kernel_rfl
  have ix2 : ∀ W, (Instr.index 47 (.agg #[.int .i64 rd, .int .i64 rs1, .int .i64 rs2]) (.int .i64 2)).run Tryd.prog W = .ok (.int .i64 rs2) W := fun _ => by kernel_rfl
  rcases hc with rfl | ⟨rfl, h2⟩ | ⟨rfl, h2, h3⟩ | ⟨rfl, h2, h3, h4⟩ | ⟨rfl, h2, h3, h4, h5⟩ | ⟨rfl, h2, h3, h4, h5, h6⟩ | ⟨rfl, h2, h3, h4, h5, h6, h7⟩
  all_goals
    (try have z1 : decide (rd < 32) = false := decide_eq_false (by omega))
    (try have z2 : decide (rs1 < 32) = false := decide_eq_false (by omega))
    (try have z3 : decide (rs2 < 32) = false := decide_eq_false (by omega))
    go_enter Tryd.func12, Tryd.ntmps12
    go_wp2_with fail
    refine (HOF.out _).mono ?_
    rintro e w1 ⟨rfl, hb1⟩
    have hblk := (hb1.block w.heap.size (by simp)).trans (heap_alloc_new w (.cells #[.int .i64 op, .int .i64 rd, .int .i64 rs1, .int .i64 rs2, .int .i32 imm] 23))
    have c1 : w1.cell? ⟨w.heap.size, 1, none⟩ = some (.int .i64 rd) := cell_blk hblk rfl
    have c2 : w1.cell? ⟨w.heap.size, 2, none⟩ = some (.int .i64 rs1) := cell_blk hblk rfl
    have c3 : w1.cell? ⟨w.heap.size, 3, none⟩ = some (.int .i64 rs2) := cell_blk hblk rfl
    have hlt1 : w.heap.size < w1.heap.size := by have := hb1.size; simp at this; omega
    have d1 := (World.cell?_alloc_lt w1 (.cells #[.int .i64 f, .int .u32 l, .int .u32 m, .int .u32 u] 44) ⟨w.heap.size, 1, none⟩ hlt1).trans c1
    have d2 := (World.cell?_alloc_lt w1 (.cells #[.int .i64 f, .int .u32 l, .int .u32 m, .int .u32 u] 44) ⟨w.heap.size, 2, none⟩ hlt1).trans c2
    have d3 := (World.cell?_alloc_lt w1 (.cells #[.int .i64 f, .int .u32 l, .int .u32 m, .int .u32 u] 44) ⟨w.heap.size, 3, none⟩ hlt1).trans c3
    have hb2 : Below w.heap.size w w1 := Below.trans (Below.alloc (Below.refl _ _) (Nat.le_refl _) _) (hb1.mono (by simp))
    have hz := Nat.le_of_lt hlt1
    clear hblk c1 c2 c3 hb1 hlt1
    go_wp2_with fail
    go_rounds 4
    all_goals go_ret2
    all_goals exact ⟨rfl, hb2.trans (Below.alloc (Below.refl _ _) hz _)⟩
theorem decode_as (x c : Int) (W : World) (h : x = c) (hu : U32 c) :
    Calls Tryd.prog 24 #[.int .u32 x] W fun e w' => e = .returned (.tuple #[.agg (icells ((dec c).getD i0)), .bool (dec c).isSome]) ∧ Below W.heap.size W w' := by
  subst h; exact decode_any x W hu
theorem decode_as2 (w0 W : World) (x c : Int) (hb : Below w0.heap.size w0 W) (h : x = c) (hu : U32 c) :
    Calls Tryd.prog 24 #[.int .u32 x] W fun e w' => e = .returned (.tuple #[.agg (icells ((dec c).getD i0)), .bool (dec c).isSome]) ∧ Below w0.heap.size w0 w' := by
  subst h; exact (decode_any x W hu).mono fun _ _ ⟨h1, h2⟩ => ⟨h1, hb.trans (h2.mono hb.size)⟩
end Go.Proofs.YtlfnddmncbkjaacDoor.W
