/- decode.cut, at the bits that are asked for. -/
import Derived.Test.YtlfnddmncbkjaacDoorZMA
namespace Go.Proofs.YtlfnddmncbkjaacDoor.W
set_option linter.unusedVariables false
set_option linter.unusedSimpArgs false
open Go.RowKit Fb
theorem cut_0_6 (x : Int) (w : World) (hx : U32 x) : Calls Tryd.prog 23 #[.int .u32 x, .int .i64 0, .int .i64 6] w fun e w' => e = .returned (.int .u32 (x % 128)) ∧ ∃ n, w' = w.drewN n := by
  obtain ⟨h0, h1⟩ := hx
  have hm : bits .and .u32 (x) 127 = x % 128 := mask32 _ 7 (by omega) 127 rfl (by omega) (by omega)
  go_enter Tryd.func23, Tryd.ntmps23
  go_wp2
  go_quiet (fail)
  go_wp2
  go_ret
  exact ⟨ret_int (by first | rfl | omega), nq, rfl⟩
theorem cut_12_14 (x : Int) (w : World) (hx : U32 x) : Calls Tryd.prog 23 #[.int .u32 x, .int .i64 12, .int .i64 14] w fun e w' => e = .returned (.int .u32 (x / 4096 % 8)) ∧ ∃ n, w' = w.drewN n := by
  obtain ⟨h0, h1⟩ := hx
  have hm : bits .and .u32 (x / 4096) 7 = x / 4096 % 8 := mask32 _ 3 (by omega) 7 rfl (by omega) (by omega)
  go_enter Tryd.func23, Tryd.ntmps23
  go_wp2
  go_quiet (fail)
  go_wp2
  go_ret
  exact ⟨ret_int (by first | rfl | omega), nq, rfl⟩
theorem cut_25_31 (x : Int) (w : World) (hx : U32 x) : Calls Tryd.prog 23 #[.int .u32 x, .int .i64 25, .int .i64 31] w fun e w' => e = .returned (.int .u32 (x / 33554432 % 128)) ∧ ∃ n, w' = w.drewN n := by
  obtain ⟨h0, h1⟩ := hx
  have hm : bits .and .u32 (x / 33554432) 127 = x / 33554432 % 128 := mask32 _ 7 (by omega) 127 rfl (by omega) (by omega)
  go_enter Tryd.func23, Tryd.ntmps23
  go_wp2
  go_quiet (fail)
  go_wp2
  go_ret
  exact ⟨ret_int (by first | rfl | omega), nq, rfl⟩
theorem cut_27_31 (x : Int) (w : World) (hx : U32 x) : Calls Tryd.prog 23 #[.int .u32 x, .int .i64 27, .int .i64 31] w fun e w' => e = .returned (.int .u32 (x / 134217728 % 32)) ∧ ∃ n, w' = w.drewN n := by
  obtain ⟨h0, h1⟩ := hx
  have hm : bits .and .u32 (x / 134217728) 31 = x / 134217728 % 32 := mask32 _ 5 (by omega) 31 rfl (by omega) (by omega)
  go_enter Tryd.func23, Tryd.ntmps23
  go_wp2
  go_quiet (fail)
  go_wp2
  go_ret
  exact ⟨ret_int (by first | rfl | omega), nq, rfl⟩
theorem cut_7_11 (x : Int) (w : World) (hx : U32 x) : Calls Tryd.prog 23 #[.int .u32 x, .int .i64 7, .int .i64 11] w fun e w' => e = .returned (.int .u32 (x / 128 % 32)) ∧ ∃ n, w' = w.drewN n := by
  obtain ⟨h0, h1⟩ := hx
  have hm : bits .and .u32 (x / 128) 31 = x / 128 % 32 := mask32 _ 5 (by omega) 31 rfl (by omega) (by omega)
  go_enter Tryd.func23, Tryd.ntmps23
  go_wp2
  go_quiet (fail)
  go_wp2
  go_ret
  exact ⟨ret_int (by first | rfl | omega), nq, rfl⟩
theorem cut_15_19 (x : Int) (w : World) (hx : U32 x) : Calls Tryd.prog 23 #[.int .u32 x, .int .i64 15, .int .i64 19] w fun e w' => e = .returned (.int .u32 (x / 32768 % 32)) ∧ ∃ n, w' = w.drewN n := by
  obtain ⟨h0, h1⟩ := hx
  have hm : bits .and .u32 (x / 32768) 31 = x / 32768 % 32 := mask32 _ 5 (by omega) 31 rfl (by omega) (by omega)
  go_enter Tryd.func23, Tryd.ntmps23
  go_wp2
  go_quiet (fail)
  go_wp2
  go_ret
  exact ⟨ret_int (by first | rfl | omega), nq, rfl⟩
theorem cut_20_24 (x : Int) (w : World) (hx : U32 x) : Calls Tryd.prog 23 #[.int .u32 x, .int .i64 20, .int .i64 24] w fun e w' => e = .returned (.int .u32 (x / 1048576 % 32)) ∧ ∃ n, w' = w.drewN n := by
  obtain ⟨h0, h1⟩ := hx
  have hm : bits .and .u32 (x / 1048576) 31 = x / 1048576 % 32 := mask32 _ 5 (by omega) 31 rfl (by omega) (by omega)
  go_enter Tryd.func23, Tryd.ntmps23
  go_wp2
  go_quiet (fail)
  go_wp2
  go_ret
  exact ⟨ret_int (by first | rfl | omega), nq, rfl⟩
theorem cut_31_31 (x : Int) (w : World) (hx : U32 x) : Calls Tryd.prog 23 #[.int .u32 x, .int .i64 31, .int .i64 31] w fun e w' => e = .returned (.int .u32 (x / 2147483648 % 2)) ∧ ∃ n, w' = w.drewN n := by
  obtain ⟨h0, h1⟩ := hx
  have hm : bits .and .u32 (x / 2147483648) 1 = x / 2147483648 % 2 := mask32 _ 1 (by omega) 1 rfl (by omega) (by omega)
  go_enter Tryd.func23, Tryd.ntmps23
  go_wp2
  go_quiet (fail)
  go_wp2
  go_ret
  exact ⟨ret_int (by first | rfl | omega), nq, rfl⟩
theorem cut_12_19 (x : Int) (w : World) (hx : U32 x) : Calls Tryd.prog 23 #[.int .u32 x, .int .i64 12, .int .i64 19] w fun e w' => e = .returned (.int .u32 (x / 4096 % 256)) ∧ ∃ n, w' = w.drewN n := by
  obtain ⟨h0, h1⟩ := hx
  have hm : bits .and .u32 (x / 4096) 255 = x / 4096 % 256 := mask32 _ 8 (by omega) 255 rfl (by omega) (by omega)
  go_enter Tryd.func23, Tryd.ntmps23
  go_wp2
  go_quiet (fail)
  go_wp2
  go_ret
  exact ⟨ret_int (by first | rfl | omega), nq, rfl⟩
theorem cut_20_20 (x : Int) (w : World) (hx : U32 x) : Calls Tryd.prog 23 #[.int .u32 x, .int .i64 20, .int .i64 20] w fun e w' => e = .returned (.int .u32 (x / 1048576 % 2)) ∧ ∃ n, w' = w.drewN n := by
  obtain ⟨h0, h1⟩ := hx
  have hm : bits .and .u32 (x / 1048576) 1 = x / 1048576 % 2 := mask32 _ 1 (by omega) 1 rfl (by omega) (by omega)
  go_enter Tryd.func23, Tryd.ntmps23
  go_wp2
  go_quiet (fail)
  go_wp2
  go_ret
  exact ⟨ret_int (by first | rfl | omega), nq, rfl⟩
theorem cut_21_30 (x : Int) (w : World) (hx : U32 x) : Calls Tryd.prog 23 #[.int .u32 x, .int .i64 21, .int .i64 30] w fun e w' => e = .returned (.int .u32 (x / 2097152 % 1024)) ∧ ∃ n, w' = w.drewN n := by
  obtain ⟨h0, h1⟩ := hx
  have hm : bits .and .u32 (x / 2097152) 1023 = x / 2097152 % 1024 := mask32 _ 10 (by omega) 1023 rfl (by omega) (by omega)
  go_enter Tryd.func23, Tryd.ntmps23
  go_wp2
  go_quiet (fail)
  go_wp2
  go_ret
  exact ⟨ret_int (by first | rfl | omega), nq, rfl⟩
theorem cut_20_31 (x : Int) (w : World) (hx : U32 x) : Calls Tryd.prog 23 #[.int .u32 x, .int .i64 20, .int .i64 31] w fun e w' => e = .returned (.int .u32 (x / 1048576 % 4096)) ∧ ∃ n, w' = w.drewN n := by
  obtain ⟨h0, h1⟩ := hx
  have hm : bits .and .u32 (x / 1048576) 4095 = x / 1048576 % 4096 := mask32 _ 12 (by omega) 4095 rfl (by omega) (by omega)
  go_enter Tryd.func23, Tryd.ntmps23
  go_wp2
  go_quiet (fail)
  go_wp2
  go_ret
  exact ⟨ret_int (by first | rfl | omega), nq, rfl⟩
theorem cut_7_7 (x : Int) (w : World) (hx : U32 x) : Calls Tryd.prog 23 #[.int .u32 x, .int .i64 7, .int .i64 7] w fun e w' => e = .returned (.int .u32 (x / 128 % 2)) ∧ ∃ n, w' = w.drewN n := by
  obtain ⟨h0, h1⟩ := hx
  have hm : bits .and .u32 (x / 128) 1 = x / 128 % 2 := mask32 _ 1 (by omega) 1 rfl (by omega) (by omega)
  go_enter Tryd.func23, Tryd.ntmps23
  go_wp2
  go_quiet (fail)
  go_wp2
  go_ret
  exact ⟨ret_int (by first | rfl | omega), nq, rfl⟩
theorem cut_25_30 (x : Int) (w : World) (hx : U32 x) : Calls Tryd.prog 23 #[.int .u32 x, .int .i64 25, .int .i64 30] w fun e w' => e = .returned (.int .u32 (x / 33554432 % 64)) ∧ ∃ n, w' = w.drewN n := by
  obtain ⟨h0, h1⟩ := hx
  have hm : bits .and .u32 (x / 33554432) 63 = x / 33554432 % 64 := mask32 _ 6 (by omega) 63 rfl (by omega) (by omega)
  go_enter Tryd.func23, Tryd.ntmps23
  go_wp2
  go_quiet (fail)
  go_wp2
  go_ret
  exact ⟨ret_int (by first | rfl | omega), nq, rfl⟩
theorem cut_8_11 (x : Int) (w : World) (hx : U32 x) : Calls Tryd.prog 23 #[.int .u32 x, .int .i64 8, .int .i64 11] w fun e w' => e = .returned (.int .u32 (x / 256 % 16)) ∧ ∃ n, w' = w.drewN n := by
  obtain ⟨h0, h1⟩ := hx
  have hm : bits .and .u32 (x / 256) 15 = x / 256 % 16 := mask32 _ 4 (by omega) 15 rfl (by omega) (by omega)
  go_enter Tryd.func23, Tryd.ntmps23
  go_wp2
  go_quiet (fail)
  go_wp2
  go_ret
  exact ⟨ret_int (by first | rfl | omega), nq, rfl⟩
theorem cut_25_26 (x : Int) (w : World) (hx : U32 x) : Calls Tryd.prog 23 #[.int .u32 x, .int .i64 25, .int .i64 26] w fun e w' => e = .returned (.int .u32 (x / 33554432 % 4)) ∧ ∃ n, w' = w.drewN n := by
  obtain ⟨h0, h1⟩ := hx
  have hm : bits .and .u32 (x / 33554432) 3 = x / 33554432 % 4 := mask32 _ 2 (by omega) 3 rfl (by omega) (by omega)
  go_enter Tryd.func23, Tryd.ntmps23
  go_wp2
  go_quiet (fail)
  go_wp2
  go_ret
  exact ⟨ret_int (by first | rfl | omega), nq, rfl⟩
theorem cut_11_11 (x : Int) (w : World) (hx : U32 x) : Calls Tryd.prog 23 #[.int .u32 x, .int .i64 11, .int .i64 11] w fun e w' => e = .returned (.int .u32 (x / 2048 % 2)) ∧ ∃ n, w' = w.drewN n := by
  obtain ⟨h0, h1⟩ := hx
  have hm : bits .and .u32 (x / 2048) 1 = x / 2048 % 2 := mask32 _ 1 (by omega) 1 rfl (by omega) (by omega)
  go_enter Tryd.func23, Tryd.ntmps23
  go_wp2
  go_quiet (fail)
  go_wp2
  go_ret
  exact ⟨ret_int (by first | rfl | omega), nq, rfl⟩
theorem cut_1_10 (x : Int) (w : World) (hx : U32 x) : Calls Tryd.prog 23 #[.int .u32 x, .int .i64 1, .int .i64 10] w fun e w' => e = .returned (.int .u32 (x / 2 % 1024)) ∧ ∃ n, w' = w.drewN n := by
  obtain ⟨h0, h1⟩ := hx
  have hm : bits .and .u32 (x / 2) 1023 = x / 2 % 1024 := mask32 _ 10 (by omega) 1023 rfl (by omega) (by omega)
  go_enter Tryd.func23, Tryd.ntmps23
  go_wp2
  go_quiet (fail)
  go_wp2
  go_ret
  exact ⟨ret_int (by first | rfl | omega), nq, rfl⟩
theorem cut_0_11 (x : Int) (w : World) (hx : U32 x) : Calls Tryd.prog 23 #[.int .u32 x, .int .i64 0, .int .i64 11] w fun e w' => e = .returned (.int .u32 (x % 4096)) ∧ ∃ n, w' = w.drewN n := by
  obtain ⟨h0, h1⟩ := hx
  have hm : bits .and .u32 (x) 4095 = x % 4096 := mask32 _ 12 (by omega) 4095 rfl (by omega) (by omega)
  go_enter Tryd.func23, Tryd.ntmps23
  go_wp2
  go_quiet (fail)
  go_wp2
  go_ret
  exact ⟨ret_int (by first | rfl | omega), nq, rfl⟩
theorem cut_0_4 (x : Int) (w : World) (hx : U32 x) : Calls Tryd.prog 23 #[.int .u32 x, .int .i64 0, .int .i64 4] w fun e w' => e = .returned (.int .u32 (x % 32)) ∧ ∃ n, w' = w.drewN n := by
  obtain ⟨h0, h1⟩ := hx
  have hm : bits .and .u32 (x) 31 = x % 32 := mask32 _ 5 (by omega) 31 rfl (by omega) (by omega)
  go_enter Tryd.func23, Tryd.ntmps23
  go_wp2
  go_quiet (fail)
  go_wp2
  go_ret
  exact ⟨ret_int (by first | rfl | omega), nq, rfl⟩
theorem cut_12_12 (x : Int) (w : World) (hx : U32 x) : Calls Tryd.prog 23 #[.int .u32 x, .int .i64 12, .int .i64 12] w fun e w' => e = .returned (.int .u32 (x / 4096 % 2)) ∧ ∃ n, w' = w.drewN n := by
  obtain ⟨h0, h1⟩ := hx
  have hm : bits .and .u32 (x / 4096) 1 = x / 4096 % 2 := mask32 _ 1 (by omega) 1 rfl (by omega) (by omega)
  go_enter Tryd.func23, Tryd.ntmps23
  go_wp2
  go_quiet (fail)
  go_wp2
  go_ret
  exact ⟨ret_int (by first | rfl | omega), nq, rfl⟩
theorem cut_5_10 (x : Int) (w : World) (hx : U32 x) : Calls Tryd.prog 23 #[.int .u32 x, .int .i64 5, .int .i64 10] w fun e w' => e = .returned (.int .u32 (x / 32 % 64)) ∧ ∃ n, w' = w.drewN n := by
  obtain ⟨h0, h1⟩ := hx
  have hm : bits .and .u32 (x / 32) 63 = x / 32 % 64 := mask32 _ 6 (by omega) 63 rfl (by omega) (by omega)
  go_enter Tryd.func23, Tryd.ntmps23
  go_wp2
  go_quiet (fail)
  go_wp2
  go_ret
  exact ⟨ret_int (by first | rfl | omega), nq, rfl⟩
theorem cut_1_4 (x : Int) (w : World) (hx : U32 x) : Calls Tryd.prog 23 #[.int .u32 x, .int .i64 1, .int .i64 4] w fun e w' => e = .returned (.int .u32 (x / 2 % 16)) ∧ ∃ n, w' = w.drewN n := by
  obtain ⟨h0, h1⟩ := hx
  have hm : bits .and .u32 (x / 2) 15 = x / 2 % 16 := mask32 _ 4 (by omega) 15 rfl (by omega) (by omega)
  go_enter Tryd.func23, Tryd.ntmps23
  go_wp2
  go_quiet (fail)
  go_wp2
  go_ret
  exact ⟨ret_int (by first | rfl | omega), nq, rfl⟩
theorem cut_5_11 (x : Int) (w : World) (hx : U32 x) : Calls Tryd.prog 23 #[.int .u32 x, .int .i64 5, .int .i64 11] w fun e w' => e = .returned (.int .u32 (x / 32 % 128)) ∧ ∃ n, w' = w.drewN n := by
  obtain ⟨h0, h1⟩ := hx
  have hm : bits .and .u32 (x / 32) 127 = x / 32 % 128 := mask32 _ 7 (by omega) 127 rfl (by omega) (by omega)
  go_enter Tryd.func23, Tryd.ntmps23
  go_wp2
  go_quiet (fail)
  go_wp2
  go_ret
  exact ⟨ret_int (by first | rfl | omega), nq, rfl⟩
theorem cut_0_1 (x : Int) (w : World) (hx : U32 x) : Calls Tryd.prog 23 #[.int .u32 x, .int .i64 0, .int .i64 1] w fun e w' => e = .returned (.int .u32 (x % 4)) ∧ ∃ n, w' = w.drewN n := by
  obtain ⟨h0, h1⟩ := hx
  have hm : bits .and .u32 (x) 3 = x % 4 := mask32 _ 2 (by omega) 3 rfl (by omega) (by omega)
  go_enter Tryd.func23, Tryd.ntmps23
  go_wp2
  go_quiet (fail)
  go_wp2
  go_ret
  exact ⟨ret_int (by first | rfl | omega), nq, rfl⟩
end Go.Proofs.YtlfnddmncbkjaacDoor.W
