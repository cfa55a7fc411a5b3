/- decode.read and decode.signed, walked. -/
import Derived.Test.YtlfnddmncbkjaacDoorZMA
import Derived.Test.YtlfnddmncbkjaacDoorZWCut
namespace Go.Proofs.YtlfnddmncbkjaacDoor.W
set_option linter.unusedVariables false
set_option linter.unusedSimpArgs false
open Go.RowKit Fb
theorem signed_12 (n : Int) (w : World) (h : 0 ≤ n ∧ n < 4096) : Calls Tryd.prog 49 #[.int .u32 n, .int .i64 12] w fun e w' => e = .returned (.int .i32 (sgn 2048 n)) ∧ w = w' := by
  have HE := Lib.hid (sgn_shift n 2048 1048576 (by omega) (by omega) h.1 (by omega))
  obtain ⟨h0, h1⟩ := h
  go_enter Tryd.func49, Tryd.ntmps49
  go_wp2
  go_ret
  exact ⟨ret_int (by rw [← HE.out]; first | rfl | (rw [Int.emod_eq_of_lt (by omega) (by omega)])), rfl⟩
theorem signed_13 (n : Int) (w : World) (h : 0 ≤ n ∧ n < 8192) : Calls Tryd.prog 49 #[.int .u32 n, .int .i64 13] w fun e w' => e = .returned (.int .i32 (sgn 4096 n)) ∧ w = w' := by
  have HE := Lib.hid (sgn_shift n 4096 524288 (by omega) (by omega) h.1 (by omega))
  obtain ⟨h0, h1⟩ := h
  go_enter Tryd.func49, Tryd.ntmps49
  go_wp2
  go_ret
  exact ⟨ret_int (by rw [← HE.out]; first | rfl | (rw [Int.emod_eq_of_lt (by omega) (by omega)])), rfl⟩
theorem signed_21 (n : Int) (w : World) (h : 0 ≤ n ∧ n < 2097152) : Calls Tryd.prog 49 #[.int .u32 n, .int .i64 21] w fun e w' => e = .returned (.int .i32 (sgn 1048576 n)) ∧ w = w' := by
  have HE := Lib.hid (sgn_shift n 1048576 2048 (by omega) (by omega) h.1 (by omega))
  obtain ⟨h0, h1⟩ := h
  go_enter Tryd.func49, Tryd.ntmps49
  go_wp2
  go_ret
  exact ⟨ret_int (by rw [← HE.out]; first | rfl | (rw [Int.emod_eq_of_lt (by omega) (by omega)])), rfl⟩
set_option maxRecDepth 100000 in
set_option maxHeartbeats 1000000 in
theorem read_0 (op x : Int) (w : World) (hx : U32 x) :
    Calls Tryd.prog 36 #[.int .i64 op, .int .i64 0, .int .u32 x] w fun e w' => e = .returned (.agg (icells (readS op 0 x))) ∧ Below w.heap.size w w' := by
  have HX := Lib.hid hx
  have hN := andNot12 x hx
  obtain ⟨hx0, hx1⟩ := hx
  go_enter Tryd.func36, Tryd.ntmps36
  go_wp2_with (first | (go_at_call 23; first | ((with_reducible refine (cut_7_11 _ _ HX.out).mono ?_); rintro e w' ⟨rfl, nn, rfl⟩) | ((with_reducible refine (cut_15_19 _ _ HX.out).mono ?_); rintro e w' ⟨rfl, nn, rfl⟩) | ((with_reducible refine (cut_20_24 _ _ HX.out).mono ?_); rintro e w' ⟨rfl, nn, rfl⟩)))
  exact bodyPost_ret (v := .agg #[.int .i64 op, .int .i64 (x / 128 % 32), .int .i64 (0), .int .i64 (0), .int .i32 (wrap32 (x - x % 4096))]) (by simp [results, Tryd.results36, go_sem]) rfl ⟨rfl, (by repeat (first | with_reducible exact Below.refl _ _ | with_reducible refine below_drewN ?_ _ | ((with_reducible refine Below.setCell ?_ ?hq _); case hq => (first | (simp; done) | (simp; omega))) | ((with_reducible refine Below.alloc ?_ ?hq _); case hq => (first | (simp; done) | (simp; omega)))))⟩
set_option maxRecDepth 100000 in
set_option maxHeartbeats 1000000 in
theorem read_1 (op x : Int) (w : World) (hx : U32 x) :
    Calls Tryd.prog 36 #[.int .i64 op, .int .i64 1, .int .u32 x] w fun e w' => e = .returned (.agg (icells (readS op 1 x))) ∧ Below w.heap.size w w' := by
  have HX := Lib.hid hx
  have o1 : bits .or .u32 (x / 2147483648 % 2 * 1048576) (x / 4096 % 256 * 4096) = x / 2147483648 % 2 * 1048576 + x / 4096 % 256 * 4096 := by
    have h := or_lo (x / 2147483648 % 2) (x / 4096 % 256 * 4096) 20 (by omega) (by omega) (by omega) (by omega) (by omega)
    rw [show (x / 2147483648 % 2) * 2 ^ 20 = x / 2147483648 % 2 * 1048576 from by omega] at h
    exact h
  have o2 : bits .or .u32 (x / 2147483648 % 2 * 1048576 + x / 4096 % 256 * 4096) (x / 1048576 % 2 * 2048) = x / 2147483648 % 2 * 1048576 + x / 4096 % 256 * 4096 + x / 1048576 % 2 * 2048 := by
    have h := or_lo (x / 2147483648 % 2 * 256 + x / 4096 % 256) (x / 1048576 % 2 * 2048) 12 (by omega) (by omega) (by omega) (by omega) (by omega)
    rw [show (x / 2147483648 % 2 * 256 + x / 4096 % 256) * 2 ^ 12 = x / 2147483648 % 2 * 1048576 + x / 4096 % 256 * 4096 from by omega] at h
    exact h
  have o3 : bits .or .u32 (x / 2147483648 % 2 * 1048576 + x / 4096 % 256 * 4096 + x / 1048576 % 2 * 2048) (x / 2097152 % 1024 * 2) = x / 2147483648 % 2 * 1048576 + x / 4096 % 256 * 4096 + x / 1048576 % 2 * 2048 + x / 2097152 % 1024 * 2 := by
    have h := or_lo (x / 2147483648 % 2 * 512 + x / 4096 % 256 * 2 + x / 1048576 % 2) (x / 2097152 % 1024 * 2) 11 (by omega) (by omega) (by omega) (by omega) (by omega)
    rw [show (x / 2147483648 % 2 * 512 + x / 4096 % 256 * 2 + x / 1048576 % 2) * 2 ^ 11 = x / 2147483648 % 2 * 1048576 + x / 4096 % 256 * 4096 + x / 1048576 % 2 * 2048 from by omega] at h
    exact h
  obtain ⟨hx0, hx1⟩ := hx
  go_enter Tryd.func36, Tryd.ntmps36
  go_wp2_with (first | (go_at_call 23; first | ((with_reducible refine (cut_7_11 _ _ HX.out).mono ?_); rintro e w' ⟨rfl, nn, rfl⟩) | ((with_reducible refine (cut_15_19 _ _ HX.out).mono ?_); rintro e w' ⟨rfl, nn, rfl⟩) | ((with_reducible refine (cut_20_24 _ _ HX.out).mono ?_); rintro e w' ⟨rfl, nn, rfl⟩) | ((with_reducible refine (cut_31_31 _ _ HX.out).mono ?_); rintro e w' ⟨rfl, nn, rfl⟩) | ((with_reducible refine (cut_12_19 _ _ HX.out).mono ?_); rintro e w' ⟨rfl, nn, rfl⟩) | ((with_reducible refine (cut_20_20 _ _ HX.out).mono ?_); rintro e w' ⟨rfl, nn, rfl⟩) | ((with_reducible refine (cut_21_30 _ _ HX.out).mono ?_); rintro e w' ⟨rfl, nn, rfl⟩)) | (go_at_call 49; refine (signed_21 _ _ ?_).mono ?_; omega; rintro e w' ⟨rfl, rfl⟩))
  exact bodyPost_ret (v := .agg #[.int .i64 op, .int .i64 (x / 128 % 32), .int .i64 (0), .int .i64 (0), .int .i32 (sgn 1048576 (x / 2147483648 % 2 * 1048576 + x / 4096 % 256 * 4096 + x / 1048576 % 2 * 2048 + x / 2097152 % 1024 * 2))]) (by simp [results, Tryd.results36, go_sem]) rfl ⟨rfl, (by repeat (first | with_reducible exact Below.refl _ _ | with_reducible refine below_drewN ?_ _ | ((with_reducible refine Below.setCell ?_ ?hq _); case hq => (first | (simp; done) | (simp; omega))) | ((with_reducible refine Below.alloc ?_ ?hq _); case hq => (first | (simp; done) | (simp; omega)))))⟩
set_option maxRecDepth 100000 in
set_option maxHeartbeats 1000000 in
theorem read_2 (op x : Int) (w : World) (hx : U32 x) :
    Calls Tryd.prog 36 #[.int .i64 op, .int .i64 2, .int .u32 x] w fun e w' => e = .returned (.agg (icells (readS op 2 x))) ∧ Below w.heap.size w w' := by
  have HX := Lib.hid hx
  obtain ⟨hx0, hx1⟩ := hx
  go_enter Tryd.func36, Tryd.ntmps36
  go_wp2_with (first | (go_at_call 23; first | ((with_reducible refine (cut_7_11 _ _ HX.out).mono ?_); rintro e w' ⟨rfl, nn, rfl⟩) | ((with_reducible refine (cut_15_19 _ _ HX.out).mono ?_); rintro e w' ⟨rfl, nn, rfl⟩) | ((with_reducible refine (cut_20_24 _ _ HX.out).mono ?_); rintro e w' ⟨rfl, nn, rfl⟩) | ((with_reducible refine (cut_20_31 _ _ HX.out).mono ?_); rintro e w' ⟨rfl, nn, rfl⟩)) | (go_at_call 49; refine (signed_12 _ _ ?_).mono ?_; omega; rintro e w' ⟨rfl, rfl⟩))
  exact bodyPost_ret (v := .agg #[.int .i64 op, .int .i64 (x / 128 % 32), .int .i64 (x / 32768 % 32), .int .i64 (0), .int .i32 (sgn 2048 (x / 1048576 % 4096))]) (by simp [results, Tryd.results36, go_sem]) rfl ⟨rfl, (by repeat (first | with_reducible exact Below.refl _ _ | with_reducible refine below_drewN ?_ _ | ((with_reducible refine Below.setCell ?_ ?hq _); case hq => (first | (simp; done) | (simp; omega))) | ((with_reducible refine Below.alloc ?_ ?hq _); case hq => (first | (simp; done) | (simp; omega)))))⟩
set_option maxRecDepth 100000 in
set_option maxHeartbeats 1000000 in
theorem read_3 (op x : Int) (w : World) (hx : U32 x) :
    Calls Tryd.prog 36 #[.int .i64 op, .int .i64 3, .int .u32 x] w fun e w' => e = .returned (.agg (icells (readS op 3 x))) ∧ Below w.heap.size w w' := by
  have HX := Lib.hid hx
  obtain ⟨hx0, hx1⟩ := hx
  go_enter Tryd.func36, Tryd.ntmps36
  go_wp2_with (first | (go_at_call 23; first | ((with_reducible refine (cut_7_11 _ _ HX.out).mono ?_); rintro e w' ⟨rfl, nn, rfl⟩) | ((with_reducible refine (cut_15_19 _ _ HX.out).mono ?_); rintro e w' ⟨rfl, nn, rfl⟩) | ((with_reducible refine (cut_20_24 _ _ HX.out).mono ?_); rintro e w' ⟨rfl, nn, rfl⟩)))
  exact bodyPost_ret (v := .agg #[.int .i64 op, .int .i64 (x / 128 % 32), .int .i64 (x / 32768 % 32), .int .i64 (0), .int .i32 (x / 1048576 % 32)]) (by simp [results, Tryd.results36, go_sem]) rfl ⟨rfl, (by repeat (first | with_reducible exact Below.refl _ _ | with_reducible refine below_drewN ?_ _ | ((with_reducible refine Below.setCell ?_ ?hq _); case hq => (first | (simp; done) | (simp; omega))) | ((with_reducible refine Below.alloc ?_ ?hq _); case hq => (first | (simp; done) | (simp; omega)))))⟩
set_option maxRecDepth 100000 in
set_option maxHeartbeats 1000000 in
theorem read_4 (op x : Int) (w : World) (hx : U32 x) :
    Calls Tryd.prog 36 #[.int .i64 op, .int .i64 4, .int .u32 x] w fun e w' => e = .returned (.agg (icells (readS op 4 x))) ∧ Below w.heap.size w w' := by
  have HX := Lib.hid hx
  have o1 : bits .or .u32 (x / 2147483648 % 2 * 4096) (x / 128 % 2 * 2048) = x / 2147483648 % 2 * 4096 + x / 128 % 2 * 2048 := by
    have h := or_lo (x / 2147483648 % 2) (x / 128 % 2 * 2048) 12 (by omega) (by omega) (by omega) (by omega) (by omega)
    rw [show (x / 2147483648 % 2) * 2 ^ 12 = x / 2147483648 % 2 * 4096 from by omega] at h
    exact h
  have o2 : bits .or .u32 (x / 2147483648 % 2 * 4096 + x / 128 % 2 * 2048) (x / 33554432 % 64 * 32) = x / 2147483648 % 2 * 4096 + x / 128 % 2 * 2048 + x / 33554432 % 64 * 32 := by
    have h := or_lo (x / 2147483648 % 2 * 2 + x / 128 % 2) (x / 33554432 % 64 * 32) 11 (by omega) (by omega) (by omega) (by omega) (by omega)
    rw [show (x / 2147483648 % 2 * 2 + x / 128 % 2) * 2 ^ 11 = x / 2147483648 % 2 * 4096 + x / 128 % 2 * 2048 from by omega] at h
    exact h
  have o3 : bits .or .u32 (x / 2147483648 % 2 * 4096 + x / 128 % 2 * 2048 + x / 33554432 % 64 * 32) (x / 256 % 16 * 2) = x / 2147483648 % 2 * 4096 + x / 128 % 2 * 2048 + x / 33554432 % 64 * 32 + x / 256 % 16 * 2 := by
    have h := or_lo (x / 2147483648 % 2 * 128 + x / 128 % 2 * 64 + x / 33554432 % 64) (x / 256 % 16 * 2) 5 (by omega) (by omega) (by omega) (by omega) (by omega)
    rw [show (x / 2147483648 % 2 * 128 + x / 128 % 2 * 64 + x / 33554432 % 64) * 2 ^ 5 = x / 2147483648 % 2 * 4096 + x / 128 % 2 * 2048 + x / 33554432 % 64 * 32 from by omega] at h
    exact h
  obtain ⟨hx0, hx1⟩ := hx
  go_enter Tryd.func36, Tryd.ntmps36
  go_wp2_with (first | (go_at_call 23; first | ((with_reducible refine (cut_7_11 _ _ HX.out).mono ?_); rintro e w' ⟨rfl, nn, rfl⟩) | ((with_reducible refine (cut_15_19 _ _ HX.out).mono ?_); rintro e w' ⟨rfl, nn, rfl⟩) | ((with_reducible refine (cut_20_24 _ _ HX.out).mono ?_); rintro e w' ⟨rfl, nn, rfl⟩) | ((with_reducible refine (cut_31_31 _ _ HX.out).mono ?_); rintro e w' ⟨rfl, nn, rfl⟩) | ((with_reducible refine (cut_7_7 _ _ HX.out).mono ?_); rintro e w' ⟨rfl, nn, rfl⟩) | ((with_reducible refine (cut_25_30 _ _ HX.out).mono ?_); rintro e w' ⟨rfl, nn, rfl⟩) | ((with_reducible refine (cut_8_11 _ _ HX.out).mono ?_); rintro e w' ⟨rfl, nn, rfl⟩)) | (go_at_call 49; refine (signed_13 _ _ ?_).mono ?_; omega; rintro e w' ⟨rfl, rfl⟩))
  exact bodyPost_ret (v := .agg #[.int .i64 op, .int .i64 (0), .int .i64 (x / 32768 % 32), .int .i64 (x / 1048576 % 32), .int .i32 (sgn 4096 (x / 2147483648 % 2 * 4096 + x / 128 % 2 * 2048 + x / 33554432 % 64 * 32 + x / 256 % 16 * 2))]) (by simp [results, Tryd.results36, go_sem]) rfl ⟨rfl, (by repeat (first | with_reducible exact Below.refl _ _ | with_reducible refine below_drewN ?_ _ | ((with_reducible refine Below.setCell ?_ ?hq _); case hq => (first | (simp; done) | (simp; omega))) | ((with_reducible refine Below.alloc ?_ ?hq _); case hq => (first | (simp; done) | (simp; omega)))))⟩
set_option maxRecDepth 100000 in
set_option maxHeartbeats 1000000 in
theorem read_5 (op x : Int) (w : World) (hx : U32 x) :
    Calls Tryd.prog 36 #[.int .i64 op, .int .i64 5, .int .u32 x] w fun e w' => e = .returned (.agg (icells (readS op 5 x))) ∧ Below w.heap.size w w' := by
  have HX := Lib.hid hx
  have o1 : bits .or .u32 (x / 33554432 % 128 * 32) (x / 128 % 32) = x / 33554432 % 128 * 32 + x / 128 % 32 := by
    have h := or_lo (x / 33554432 % 128) (x / 128 % 32) 5 (by omega) (by omega) (by omega) (by omega) (by omega)
    rw [show (x / 33554432 % 128) * 2 ^ 5 = x / 33554432 % 128 * 32 from by omega] at h
    exact h
  obtain ⟨hx0, hx1⟩ := hx
  go_enter Tryd.func36, Tryd.ntmps36
  go_wp2_with (first | (go_at_call 23; first | ((with_reducible refine (cut_7_11 _ _ HX.out).mono ?_); rintro e w' ⟨rfl, nn, rfl⟩) | ((with_reducible refine (cut_15_19 _ _ HX.out).mono ?_); rintro e w' ⟨rfl, nn, rfl⟩) | ((with_reducible refine (cut_20_24 _ _ HX.out).mono ?_); rintro e w' ⟨rfl, nn, rfl⟩) | ((with_reducible refine (cut_25_31 _ _ HX.out).mono ?_); rintro e w' ⟨rfl, nn, rfl⟩)) | (go_at_call 49; refine (signed_12 _ _ ?_).mono ?_; omega; rintro e w' ⟨rfl, rfl⟩))
  exact bodyPost_ret (v := .agg #[.int .i64 op, .int .i64 (0), .int .i64 (x / 32768 % 32), .int .i64 (x / 1048576 % 32), .int .i32 (sgn 2048 (x / 33554432 % 128 * 32 + x / 128 % 32))]) (by simp [results, Tryd.results36, go_sem]) rfl ⟨rfl, (by repeat (first | with_reducible exact Below.refl _ _ | with_reducible refine below_drewN ?_ _ | ((with_reducible refine Below.setCell ?_ ?hq _); case hq => (first | (simp; done) | (simp; omega))) | ((with_reducible refine Below.alloc ?_ ?hq _); case hq => (first | (simp; done) | (simp; omega)))))⟩
set_option maxRecDepth 100000 in
set_option maxHeartbeats 1000000 in
theorem read_6 (op x : Int) (w : World) (hx : U32 x) :
    Calls Tryd.prog 36 #[.int .i64 op, .int .i64 6, .int .u32 x] w fun e w' => e = .returned (.agg (icells (readS op 6 x))) ∧ Below w.heap.size w w' := by
  have HX := Lib.hid hx
  obtain ⟨hx0, hx1⟩ := hx
  go_enter Tryd.func36, Tryd.ntmps36
  go_wp2_with (first | (go_at_call 23; first | ((with_reducible refine (cut_7_11 _ _ HX.out).mono ?_); rintro e w' ⟨rfl, nn, rfl⟩) | ((with_reducible refine (cut_15_19 _ _ HX.out).mono ?_); rintro e w' ⟨rfl, nn, rfl⟩) | ((with_reducible refine (cut_20_24 _ _ HX.out).mono ?_); rintro e w' ⟨rfl, nn, rfl⟩)))
  exact bodyPost_ret (v := .agg #[.int .i64 op, .int .i64 (x / 128 % 32), .int .i64 (x / 32768 % 32), .int .i64 (x / 1048576 % 32), .int .i32 (0)]) (by simp [results, Tryd.results36, go_sem]) rfl ⟨rfl, (by repeat (first | with_reducible exact Below.refl _ _ | with_reducible refine below_drewN ?_ _ | ((with_reducible refine Below.setCell ?_ ?hq _); case hq => (first | (simp; done) | (simp; omega))) | ((with_reducible refine Below.alloc ?_ ?hq _); case hq => (first | (simp; done) | (simp; omega)))))⟩
set_option maxRecDepth 100000 in
set_option maxHeartbeats 1000000 in
theorem read_7 (op x : Int) (w : World) (hx : U32 x) :
    Calls Tryd.prog 36 #[.int .i64 op, .int .i64 7, .int .u32 x] w fun e w' => e = .returned (.agg (icells (readS op 7 x))) ∧ Below w.heap.size w w' := by
  have HX := Lib.hid hx
  obtain ⟨hx0, hx1⟩ := hx
  go_enter Tryd.func36, Tryd.ntmps36
  go_wp2_with (first | (go_at_call 23; first | ((with_reducible refine (cut_7_11 _ _ HX.out).mono ?_); rintro e w' ⟨rfl, nn, rfl⟩) | ((with_reducible refine (cut_15_19 _ _ HX.out).mono ?_); rintro e w' ⟨rfl, nn, rfl⟩) | ((with_reducible refine (cut_20_24 _ _ HX.out).mono ?_); rintro e w' ⟨rfl, nn, rfl⟩) | ((with_reducible refine (cut_25_26 _ _ HX.out).mono ?_); rintro e w' ⟨rfl, nn, rfl⟩)))
  exact bodyPost_ret (v := .agg #[.int .i64 op, .int .i64 (x / 128 % 32), .int .i64 (x / 32768 % 32), .int .i64 (x / 1048576 % 32), .int .i32 (x / 33554432 % 4)]) (by simp [results, Tryd.results36, go_sem]) rfl ⟨rfl, (by repeat (first | with_reducible exact Below.refl _ _ | with_reducible refine below_drewN ?_ _ | ((with_reducible refine Below.setCell ?_ ?hq _); case hq => (first | (simp; done) | (simp; omega))) | ((with_reducible refine Below.alloc ?_ ?hq _); case hq => (first | (simp; done) | (simp; omega)))))⟩
set_option maxRecDepth 100000 in
set_option maxHeartbeats 1000000 in
theorem read_8 (op x : Int) (w : World) (hx : U32 x) :
    Calls Tryd.prog 36 #[.int .i64 op, .int .i64 8, .int .u32 x] w fun e w' => e = .returned (.agg (icells (readS op 8 x))) ∧ Below w.heap.size w w' := by
  have HX := Lib.hid hx
  obtain ⟨hx0, hx1⟩ := hx
  go_enter Tryd.func36, Tryd.ntmps36
  go_wp2_with (first | (go_at_call 23; first | ((with_reducible refine (cut_7_11 _ _ HX.out).mono ?_); rintro e w' ⟨rfl, nn, rfl⟩) | ((with_reducible refine (cut_15_19 _ _ HX.out).mono ?_); rintro e w' ⟨rfl, nn, rfl⟩) | ((with_reducible refine (cut_20_24 _ _ HX.out).mono ?_); rintro e w' ⟨rfl, nn, rfl⟩)))
  exact bodyPost_ret (v := .agg #[.int .i64 op, .int .i64 (0), .int .i64 (0), .int .i64 (0), .int .i32 (0)]) (by simp [results, Tryd.results36, go_sem]) rfl ⟨rfl, (by repeat (first | with_reducible exact Below.refl _ _ | with_reducible refine below_drewN ?_ _ | ((with_reducible refine Below.setCell ?_ ?hq _); case hq => (first | (simp; done) | (simp; omega))) | ((with_reducible refine Below.alloc ?_ ?hq _); case hq => (first | (simp; done) | (simp; omega)))))⟩
theorem read_any (op f x : Int) (w : World) (hx : U32 x) (hf : 0 ≤ f ∧ f ≤ 8) :
    Calls Tryd.prog 36 #[.int .i64 op, .int .i64 f, .int .u32 x] w fun e w' => e = .returned (.agg (icells (readS op f x))) ∧ Below w.heap.size w w' := by
  have hc : f = 0 ∨ f = 1 ∨ f = 2 ∨ f = 3 ∨ f = 4 ∨ f = 5 ∨ f = 6 ∨ f = 7 ∨ f = 8 := by omega
  rcases hc with rfl | rfl | rfl | rfl | rfl | rfl | rfl | rfl | rfl
  · exact read_0 op x w hx
  · exact read_1 op x w hx
  · exact read_2 op x w hx
  · exact read_3 op x w hx
  · exact read_4 op x w hx
  · exact read_5 op x w hx
  · exact read_6 op x w hx
  · exact read_7 op x w hx
  · exact read_8 op x w hx
end Go.Proofs.YtlfnddmncbkjaacDoor.W
