/- trans: maker.number, walked. -/
import Derived.Test.YtlfnddmncbkjaabZWTrans1
namespace Go.Proofs.Ytlfnddmncbkjaab.W
set_option linter.unusedVariables false
set_option linter.unusedSimpArgs false
open Go.RowKit Fb
set_option maxRecDepth 100000 in
set_option maxHeartbeats 800000 in
theorem number_any (pw : Nat) (l : List MicD) (op : Int) (iop rd rs1 rs2 imm n : Int) (w : World) (hk : MkW pw 133 w l) (hl : l.length ≤ 1000) (hop : 28 ≤ op ∧ op ≤ 45) :
    Calls Try.prog 105 #[.pointer (some ⟨pw, 0, none⟩), .int .i64 op, .agg #[.int .i64 iop, .int .i64 rd, .int .i64 rs1, .int .i64 rs2, .int .i32 imm], .int .u32 n] w fun e w' => e = .returned (.tuple #[]) ∧ MkW pw 133 w' (l ++ numM op rd rs1 n) ∧ Grew pw 133 w w' := by
  obtain ⟨w1, hw1⟩ : ∃ w1, w1 = w.alloc (.cells #[.int .i64 iop, .int .i64 rd, .int .i64 rs1, .int .i64 rs2, .int .i32 imm] 38) := ⟨_, rfl⟩
  have hb1 : Below w.heap.size w w1 := by rw [hw1]; exact (by repeat (first | with_reducible exact Below.refl _ _ | with_reducible refine below_drewN ?_ _ | ((with_reducible refine Below.setCell ?_ ?hq _); case hq => (first | (simp; done) | (simp; omega))) | ((with_reducible refine Below.alloc ?_ ?hq _); case hq => (first | (simp; done) | (simp; omega)))))
  have c0 : (w1).cell? ⟨w.heap.size, 0, none⟩ = some (.int .i64 iop) := by rw [hw1]; go_cell
  have c1 : (w1).cell? ⟨w.heap.size, 1, none⟩ = some (.int .i64 rd) := by rw [hw1]; go_cell
  have c2 : (w1).cell? ⟨w.heap.size, 2, none⟩ = some (.int .i64 rs1) := by rw [hw1]; go_cell
  have c3 : (w1).cell? ⟨w.heap.size, 3, none⟩ = some (.int .i64 rs2) := by rw [hw1]; go_cell
  have c4 : (w1).cell? ⟨w.heap.size, 4, none⟩ = some (.int .i32 imm) := by rw [hw1]; go_cell
  have HK := Lib.hid (hk.below hb1)
  have HB := Lib.hid hb1
  have HW1 := Lib.hid hw1
  have HP := Lib.hid (fun a b c d e => mput_any pw l a b c d e w1 HK.out hl)
  clear hw1 hb1 hk c0 c3 c4
  unfold numM
  by_cases h0 : rd = 0
  · subst h0
    rw [if_pos rfl, List.append_nil]
    go_enter Try.func105, Try.ntmps105
    go_upto_region 2 with (fail)
    rw [← HW1.out]
    go_wp2_with fail
    go_end0
    exact ⟨rfl, HK.out, .of_below HB.out⟩
  rw [if_neg h0]
  by_cases h1 : rs1 = 0
  · subst h1
    by_cases ha : op = 28 ∨ op = 36 ∨ op = 33
    · rw [if_pos ⟨rfl, ha⟩]
      rcases ha with rfl | rfl | rfl <;>
      · go_enter Try.func105, Try.ntmps105
        go_upto_region 2 with (fail)
        rw [← HW1.out]
        go_wp2_with fail
        refine (HP.out _ _ _ _ _).mono ?_
        rintro e w2 ⟨rfl, h2, h3⟩
        go_wp2_with fail
        go_end0
        exact ⟨rfl, h2, (Grew.of_below HB.out).trans h3⟩
    rw [if_neg (by omega)]
    by_cases hb : op = 37 ∨ op = 30 ∨ op = 34 ∨ op = 35
    · rw [if_pos ⟨rfl, hb⟩]
      clear ha
      rcases hb with rfl | rfl | rfl | rfl <;>
      · go_enter Try.func105, Try.ntmps105
        go_upto_region 2 with (fail)
        rw [← HW1.out]
        go_wp2_with fail
        refine (HP.out _ _ _ _ _).mono ?_
        rintro e w2 ⟨rfl, h2, h3⟩
        go_wp2_with fail
        go_end0
        exact ⟨rfl, h2, (Grew.of_below HB.out).trans h3⟩
    rw [if_neg (by omega)]
    have a1 : (op == 28) = false := by simp; omega
    have d1 : decide (op = 28) = false := by simp; omega
    have a2 : (op == 36) = false := by simp; omega
    have d2 : decide (op = 36) = false := by simp; omega
    have a3 : (op == 33) = false := by simp; omega
    have d3 : decide (op = 33) = false := by simp; omega
    have a4 : (op == 37) = false := by simp; omega
    have d4 : decide (op = 37) = false := by simp; omega
    have a5 : (op == 30) = false := by simp; omega
    have d5 : decide (op = 30) = false := by simp; omega
    have a6 : (op == 34) = false := by simp; omega
    have d6 : decide (op = 34) = false := by simp; omega
    have a7 : (op == 35) = false := by simp; omega
    have d7 : decide (op = 35) = false := by simp; omega
    have a8 : wrap64 (500 + op) = 500 + op := by unfold wrap64; omega
    clear ha hb
    go_enter Try.func105, Try.ntmps105
    go_upto_region 2 with (fail)
    rw [← HW1.out]
    go_wp2_with fail
    refine (HP.out _ _ _ _ _).mono ?_
    rintro e w2 ⟨rfl, h2, h3⟩
    go_wp2_with fail
    go_end0
    exact ⟨rfl, h2, (Grew.of_below HB.out).trans h3⟩
  rw [if_neg (by omega), if_neg (by omega)]
  have a8 : wrap64 (500 + op) = 500 + op := by unfold wrap64; omega
  go_enter Try.func105, Try.ntmps105
  go_upto_region 2 with (fail)
  rw [← HW1.out]
  go_wp2_with fail
  refine (HP.out _ _ _ _ _).mono ?_
  rintro e w2 ⟨rfl, h2, h3⟩
  go_wp2_with fail
  go_end0
  exact ⟨rfl, h2, (Grew.of_below HB.out).trans h3⟩
end Go.Proofs.Ytlfnddmncbkjaab.W
