import Derived.Test.YtlfnddmncbkjaacZMB
import Derived.Test.YtlfnddmncbkjaacZMA
import Derived.Test.YtlfnddmncbkjaacZFbForm
import Derived.Test.YtlfnddmncbkjaacZGA
set_option linter.unusedVariables false
set_option linter.unusedSimpArgs false
set_option maxRecDepth 100000
set_option maxHeartbeats 4000000
namespace Go.Proofs.Ytlfnddmncbkjaac.W
open Go.RowKit Fb
theorem near_any (word fr many : Int) (hw : U32 word) (hf : U32 fr) (hm : 0 ≤ many ∧ many ≤ 4096) (w : World) :
    Calls Try.prog 35 #[.int .u32 word, .int .u32 fr, .int .i64 many] w fun e w' => e = .returned (.bool (nearB word fr many)) ∧ w' = w := by
  obtain ⟨a, rfl⟩ := Int.eq_ofNat_of_zero_le hw.1
  obtain ⟨b, rfl⟩ := Int.eq_ofNat_of_zero_le hf.1
  obtain ⟨n, rfl⟩ := Int.eq_ofNat_of_zero_le hm.1
  have h1 : a < 4294967296 := by have := hw.2; omega
  have h2 : b < 4294967296 := by have := hf.2; omega
  have h3 : n ≤ 4096 := by have := hm.2; omega
  clear hw hf hm
  obtain ⟨q, hq⟩ : ∃ q, q = nearB (a : Int) (b : Int) (n : Int) := ⟨_, rfl⟩
  rw [← hq]
  have HY := lI (fun j h0 h1 h2 h3 => hq.trans (near_one (word := (a : Int)) (fr := (b : Int)) (many := (n : Int)) (j := j) h0 h1 h2 h3))
  have HN := lI (fun h => hq.trans (near_all (word := (a : Int)) (fr := (b : Int)) (many := (n : Int)) h))
  clear hq
  go_enter Try.func35, Try.ntmps35
  go_wp2_with fail
  go_loopw [7] (fun i wr => ∃ k : Nat, i = .int .i64 k ∧ k ≤ n ∧ wr = w ∧ Hid (∀ j : Int, 0 ≤ j → j < k → ¬ (0 ≤ (b : Int) + j - a ∧ (b : Int) + j - a < 4))) (fun i _ => n - (intOf i).toNat)
  case atStart => exact ⟨0, rfl, om, rfl, lI (fun j h0 h1 => om)⟩
  case round =>
    obtain ⟨k, rfl, hk, rfl, HI⟩ := hrel
    by_cases hlt : k < n
    · by_cases h4 : (0 : Int) ≤ (b : Int) + k - a
      · by_cases h5 : (b : Int) + k - a < 4
        · obtain rfl := HY.out k om om h4 h5
          go_wp2_with fail
          go_ret
          exact ⟨rfl, rfl⟩
        · go_wp2_with fail
          go_roundw
          case rel => exact ⟨k + 1, by simp, om, (by trivial), lI (fun j h0 h1 => by
            by_cases e : j = k
            · subst e; omega
            · exact HI.out j h0 om)⟩
          case measure => simp [intOf]; omega
      · go_wp2_with fail
        go_roundw
        case rel => exact ⟨k + 1, by simp, om, (by trivial), lI (fun j h0 h1 => by
          by_cases e : j = k
          · subst e; omega
          · exact HI.out j h0 om)⟩
        case measure => simp [intOf]; omega
    · obtain rfl : k = n := om
      obtain rfl := HN.out HI.out
      go_wp2_with fail
      go_ret
      exact ⟨rfl, rfl⟩
theorem cut2_0_6 (x : Int) (w : World) (hx : U32 x) : Calls Try.prog 65 #[.int .u32 x, .int .i64 0, .int .i64 6] w fun e w' => e = .returned (.int .i64 (x % 128)) ∧ w = w' := by
  obtain ⟨h0, h1⟩ := hx
  have P0 : Hid ((0 : Int) ≤ 0 ∧ (0 : Int) ≤ 32 ∧ (1 : Int) = ((2 ^ (0 : Int).toNat : Nat) : Int)) := lI ⟨om, om, rfl⟩
  have P7 : Hid ((0 : Int) ≤ 7 ∧ (7 : Int) ≤ 32 ∧ (128 : Int) = ((2 ^ (7 : Int).toNat : Nat) : Int)) := lI ⟨om, om, rfl⟩
  go_enter Try.func65, Try.ntmps65
  go_wp2_with (go_at_call 79; first | ((with_reducible refine (power1h 0 1 _ P0).mono ?_); rintro e w' ⟨rfl, rfl⟩) | ((with_reducible refine (power1h 7 128 _ P7).mono ?_); rintro e w' ⟨rfl, rfl⟩))
  go_ret
  exact ⟨ret_int zG, rfl⟩
theorem cut2_12_14 (x : Int) (w : World) (hx : U32 x) : Calls Try.prog 65 #[.int .u32 x, .int .i64 12, .int .i64 14] w fun e w' => e = .returned (.int .i64 (x / 4096 % 8)) ∧ w = w' := by
  obtain ⟨h0, h1⟩ := hx
  have P3 : Hid ((0 : Int) ≤ 3 ∧ (3 : Int) ≤ 32 ∧ (8 : Int) = ((2 ^ (3 : Int).toNat : Nat) : Int)) := lI ⟨om, om, rfl⟩
  have P12 : Hid ((0 : Int) ≤ 12 ∧ (12 : Int) ≤ 32 ∧ (4096 : Int) = ((2 ^ (12 : Int).toNat : Nat) : Int)) := lI ⟨om, om, rfl⟩
  go_enter Try.func65, Try.ntmps65
  go_wp2_with (go_at_call 79; first | ((with_reducible refine (power1h 3 8 _ P3).mono ?_); rintro e w' ⟨rfl, rfl⟩) | ((with_reducible refine (power1h 12 4096 _ P12).mono ?_); rintro e w' ⟨rfl, rfl⟩))
  go_ret
  exact ⟨ret_int zG, rfl⟩
theorem cut2_25_31 (x : Int) (w : World) (hx : U32 x) : Calls Try.prog 65 #[.int .u32 x, .int .i64 25, .int .i64 31] w fun e w' => e = .returned (.int .i64 (x / 33554432 % 128)) ∧ w = w' := by
  obtain ⟨h0, h1⟩ := hx
  have P25 : Hid ((0 : Int) ≤ 25 ∧ (25 : Int) ≤ 32 ∧ (33554432 : Int) = ((2 ^ (25 : Int).toNat : Nat) : Int)) := lI ⟨om, om, rfl⟩
  go_enter Try.func65, Try.ntmps65
  go_wp2_with (go_at_call 79; first | ((with_reducible refine (power1h 25 33554432 _ P25).mono ?_); rintro e w' ⟨rfl, rfl⟩))
  go_ret
  exact ⟨ret_int zG, rfl⟩
theorem cut2_27_31 (x : Int) (w : World) (hx : U32 x) : Calls Try.prog 65 #[.int .u32 x, .int .i64 27, .int .i64 31] w fun e w' => e = .returned (.int .i64 (x / 134217728 % 32)) ∧ w = w' := by
  obtain ⟨h0, h1⟩ := hx
  have P27 : Hid ((0 : Int) ≤ 27 ∧ (27 : Int) ≤ 32 ∧ (134217728 : Int) = ((2 ^ (27 : Int).toNat : Nat) : Int)) := lI ⟨om, om, rfl⟩
  go_enter Try.func65, Try.ntmps65
  go_wp2_with (go_at_call 79; first | ((with_reducible refine (power1h 27 134217728 _ P27).mono ?_); rintro e w' ⟨rfl, rfl⟩))
  go_ret
  exact ⟨ret_int zG, rfl⟩
theorem cut2_20_24 (x : Int) (w : World) (hx : U32 x) : Calls Try.prog 65 #[.int .u32 x, .int .i64 20, .int .i64 24] w fun e w' => e = .returned (.int .i64 (x / 1048576 % 32)) ∧ w = w' := by
  obtain ⟨h0, h1⟩ := hx
  have P5 : Hid ((0 : Int) ≤ 5 ∧ (5 : Int) ≤ 32 ∧ (32 : Int) = ((2 ^ (5 : Int).toNat : Nat) : Int)) := lI ⟨om, om, rfl⟩
  have P20 : Hid ((0 : Int) ≤ 20 ∧ (20 : Int) ≤ 32 ∧ (1048576 : Int) = ((2 ^ (20 : Int).toNat : Nat) : Int)) := lI ⟨om, om, rfl⟩
  go_enter Try.func65, Try.ntmps65
  go_wp2_with (go_at_call 79; first | ((with_reducible refine (power1h 5 32 _ P5).mono ?_); rintro e w' ⟨rfl, rfl⟩) | ((with_reducible refine (power1h 20 1048576 _ P20).mono ?_); rintro e w' ⟨rfl, rfl⟩))
  go_ret
  exact ⟨ret_int zG, rfl⟩
theorem cut2_7_11 (x : Int) (w : World) (hx : U32 x) : Calls Try.prog 65 #[.int .u32 x, .int .i64 7, .int .i64 11] w fun e w' => e = .returned (.int .i64 (x / 128 % 32)) ∧ w = w' := by
  obtain ⟨h0, h1⟩ := hx
  have P5 : Hid ((0 : Int) ≤ 5 ∧ (5 : Int) ≤ 32 ∧ (32 : Int) = ((2 ^ (5 : Int).toNat : Nat) : Int)) := lI ⟨om, om, rfl⟩
  have P7 : Hid ((0 : Int) ≤ 7 ∧ (7 : Int) ≤ 32 ∧ (128 : Int) = ((2 ^ (7 : Int).toNat : Nat) : Int)) := lI ⟨om, om, rfl⟩
  go_enter Try.func65, Try.ntmps65
  go_wp2_with (go_at_call 79; first | ((with_reducible refine (power1h 5 32 _ P5).mono ?_); rintro e w' ⟨rfl, rfl⟩) | ((with_reducible refine (power1h 7 128 _ P7).mono ?_); rintro e w' ⟨rfl, rfl⟩))
  go_ret
  exact ⟨ret_int zG, rfl⟩
theorem cut2_15_19 (x : Int) (w : World) (hx : U32 x) : Calls Try.prog 65 #[.int .u32 x, .int .i64 15, .int .i64 19] w fun e w' => e = .returned (.int .i64 (x / 32768 % 32)) ∧ w = w' := by
  obtain ⟨h0, h1⟩ := hx
  have P5 : Hid ((0 : Int) ≤ 5 ∧ (5 : Int) ≤ 32 ∧ (32 : Int) = ((2 ^ (5 : Int).toNat : Nat) : Int)) := lI ⟨om, om, rfl⟩
  have P15 : Hid ((0 : Int) ≤ 15 ∧ (15 : Int) ≤ 32 ∧ (32768 : Int) = ((2 ^ (15 : Int).toNat : Nat) : Int)) := lI ⟨om, om, rfl⟩
  go_enter Try.func65, Try.ntmps65
  go_wp2_with (go_at_call 79; first | ((with_reducible refine (power1h 5 32 _ P5).mono ?_); rintro e w' ⟨rfl, rfl⟩) | ((with_reducible refine (power1h 15 32768 _ P15).mono ?_); rintro e w' ⟨rfl, rfl⟩))
  go_ret
  exact ⟨ret_int zG, rfl⟩
theorem cut2_31_31 (x : Int) (w : World) (hx : U32 x) : Calls Try.prog 65 #[.int .u32 x, .int .i64 31, .int .i64 31] w fun e w' => e = .returned (.int .i64 (x / 2147483648 % 2)) ∧ w = w' := by
  obtain ⟨h0, h1⟩ := hx
  have P31 : Hid ((0 : Int) ≤ 31 ∧ (31 : Int) ≤ 32 ∧ (2147483648 : Int) = ((2 ^ (31 : Int).toNat : Nat) : Int)) := lI ⟨om, om, rfl⟩
  go_enter Try.func65, Try.ntmps65
  go_wp2_with (go_at_call 79; first | ((with_reducible refine (power1h 31 2147483648 _ P31).mono ?_); rintro e w' ⟨rfl, rfl⟩))
  go_ret
  exact ⟨ret_int zG, rfl⟩
theorem cut2_0_11 (x : Int) (w : World) (hx : U32 x) : Calls Try.prog 65 #[.int .u32 x, .int .i64 0, .int .i64 11] w fun e w' => e = .returned (.int .i64 (x % 4096)) ∧ w = w' := by
  obtain ⟨h0, h1⟩ := hx
  have P0 : Hid ((0 : Int) ≤ 0 ∧ (0 : Int) ≤ 32 ∧ (1 : Int) = ((2 ^ (0 : Int).toNat : Nat) : Int)) := lI ⟨om, om, rfl⟩
  have P12 : Hid ((0 : Int) ≤ 12 ∧ (12 : Int) ≤ 32 ∧ (4096 : Int) = ((2 ^ (12 : Int).toNat : Nat) : Int)) := lI ⟨om, om, rfl⟩
  go_enter Try.func65, Try.ntmps65
  go_wp2_with (go_at_call 79; first | ((with_reducible refine (power1h 0 1 _ P0).mono ?_); rintro e w' ⟨rfl, rfl⟩) | ((with_reducible refine (power1h 12 4096 _ P12).mono ?_); rintro e w' ⟨rfl, rfl⟩))
  go_ret
  exact ⟨ret_int zG, rfl⟩
theorem cut2_12_19 (x : Int) (w : World) (hx : U32 x) : Calls Try.prog 65 #[.int .u32 x, .int .i64 12, .int .i64 19] w fun e w' => e = .returned (.int .i64 (x / 4096 % 256)) ∧ w = w' := by
  obtain ⟨h0, h1⟩ := hx
  have P8 : Hid ((0 : Int) ≤ 8 ∧ (8 : Int) ≤ 32 ∧ (256 : Int) = ((2 ^ (8 : Int).toNat : Nat) : Int)) := lI ⟨om, om, rfl⟩
  have P12 : Hid ((0 : Int) ≤ 12 ∧ (12 : Int) ≤ 32 ∧ (4096 : Int) = ((2 ^ (12 : Int).toNat : Nat) : Int)) := lI ⟨om, om, rfl⟩
  go_enter Try.func65, Try.ntmps65
  go_wp2_with (go_at_call 79; first | ((with_reducible refine (power1h 8 256 _ P8).mono ?_); rintro e w' ⟨rfl, rfl⟩) | ((with_reducible refine (power1h 12 4096 _ P12).mono ?_); rintro e w' ⟨rfl, rfl⟩))
  go_ret
  exact ⟨ret_int zG, rfl⟩
theorem cut2_20_20 (x : Int) (w : World) (hx : U32 x) : Calls Try.prog 65 #[.int .u32 x, .int .i64 20, .int .i64 20] w fun e w' => e = .returned (.int .i64 (x / 1048576 % 2)) ∧ w = w' := by
  obtain ⟨h0, h1⟩ := hx
  have P1 : Hid ((0 : Int) ≤ 1 ∧ (1 : Int) ≤ 32 ∧ (2 : Int) = ((2 ^ (1 : Int).toNat : Nat) : Int)) := lI ⟨om, om, rfl⟩
  have P20 : Hid ((0 : Int) ≤ 20 ∧ (20 : Int) ≤ 32 ∧ (1048576 : Int) = ((2 ^ (20 : Int).toNat : Nat) : Int)) := lI ⟨om, om, rfl⟩
  go_enter Try.func65, Try.ntmps65
  go_wp2_with (go_at_call 79; first | ((with_reducible refine (power1h 1 2 _ P1).mono ?_); rintro e w' ⟨rfl, rfl⟩) | ((with_reducible refine (power1h 20 1048576 _ P20).mono ?_); rintro e w' ⟨rfl, rfl⟩))
  go_ret
  exact ⟨ret_int zG, rfl⟩
theorem cut2_21_30 (x : Int) (w : World) (hx : U32 x) : Calls Try.prog 65 #[.int .u32 x, .int .i64 21, .int .i64 30] w fun e w' => e = .returned (.int .i64 (x / 2097152 % 1024)) ∧ w = w' := by
  obtain ⟨h0, h1⟩ := hx
  have P10 : Hid ((0 : Int) ≤ 10 ∧ (10 : Int) ≤ 32 ∧ (1024 : Int) = ((2 ^ (10 : Int).toNat : Nat) : Int)) := lI ⟨om, om, rfl⟩
  have P21 : Hid ((0 : Int) ≤ 21 ∧ (21 : Int) ≤ 32 ∧ (2097152 : Int) = ((2 ^ (21 : Int).toNat : Nat) : Int)) := lI ⟨om, om, rfl⟩
  go_enter Try.func65, Try.ntmps65
  go_wp2_with (go_at_call 79; first | ((with_reducible refine (power1h 10 1024 _ P10).mono ?_); rintro e w' ⟨rfl, rfl⟩) | ((with_reducible refine (power1h 21 2097152 _ P21).mono ?_); rintro e w' ⟨rfl, rfl⟩))
  go_ret
  exact ⟨ret_int zG, rfl⟩
theorem cut2_20_31 (x : Int) (w : World) (hx : U32 x) : Calls Try.prog 65 #[.int .u32 x, .int .i64 20, .int .i64 31] w fun e w' => e = .returned (.int .i64 (x / 1048576 % 4096)) ∧ w = w' := by
  obtain ⟨h0, h1⟩ := hx
  have P20 : Hid ((0 : Int) ≤ 20 ∧ (20 : Int) ≤ 32 ∧ (1048576 : Int) = ((2 ^ (20 : Int).toNat : Nat) : Int)) := lI ⟨om, om, rfl⟩
  go_enter Try.func65, Try.ntmps65
  go_wp2_with (go_at_call 79; first | ((with_reducible refine (power1h 20 1048576 _ P20).mono ?_); rintro e w' ⟨rfl, rfl⟩))
  go_ret
  exact ⟨ret_int zG, rfl⟩
theorem cut2_7_7 (x : Int) (w : World) (hx : U32 x) : Calls Try.prog 65 #[.int .u32 x, .int .i64 7, .int .i64 7] w fun e w' => e = .returned (.int .i64 (x / 128 % 2)) ∧ w = w' := by
  obtain ⟨h0, h1⟩ := hx
  have P1 : Hid ((0 : Int) ≤ 1 ∧ (1 : Int) ≤ 32 ∧ (2 : Int) = ((2 ^ (1 : Int).toNat : Nat) : Int)) := lI ⟨om, om, rfl⟩
  have P7 : Hid ((0 : Int) ≤ 7 ∧ (7 : Int) ≤ 32 ∧ (128 : Int) = ((2 ^ (7 : Int).toNat : Nat) : Int)) := lI ⟨om, om, rfl⟩
  go_enter Try.func65, Try.ntmps65
  go_wp2_with (go_at_call 79; first | ((with_reducible refine (power1h 1 2 _ P1).mono ?_); rintro e w' ⟨rfl, rfl⟩) | ((with_reducible refine (power1h 7 128 _ P7).mono ?_); rintro e w' ⟨rfl, rfl⟩))
  go_ret
  exact ⟨ret_int zG, rfl⟩
theorem cut2_25_30 (x : Int) (w : World) (hx : U32 x) : Calls Try.prog 65 #[.int .u32 x, .int .i64 25, .int .i64 30] w fun e w' => e = .returned (.int .i64 (x / 33554432 % 64)) ∧ w = w' := by
  obtain ⟨h0, h1⟩ := hx
  have P6 : Hid ((0 : Int) ≤ 6 ∧ (6 : Int) ≤ 32 ∧ (64 : Int) = ((2 ^ (6 : Int).toNat : Nat) : Int)) := lI ⟨om, om, rfl⟩
  have P25 : Hid ((0 : Int) ≤ 25 ∧ (25 : Int) ≤ 32 ∧ (33554432 : Int) = ((2 ^ (25 : Int).toNat : Nat) : Int)) := lI ⟨om, om, rfl⟩
  go_enter Try.func65, Try.ntmps65
  go_wp2_with (go_at_call 79; first | ((with_reducible refine (power1h 6 64 _ P6).mono ?_); rintro e w' ⟨rfl, rfl⟩) | ((with_reducible refine (power1h 25 33554432 _ P25).mono ?_); rintro e w' ⟨rfl, rfl⟩))
  go_ret
  exact ⟨ret_int zG, rfl⟩
theorem cut2_8_11 (x : Int) (w : World) (hx : U32 x) : Calls Try.prog 65 #[.int .u32 x, .int .i64 8, .int .i64 11] w fun e w' => e = .returned (.int .i64 (x / 256 % 16)) ∧ w = w' := by
  obtain ⟨h0, h1⟩ := hx
  have P4 : Hid ((0 : Int) ≤ 4 ∧ (4 : Int) ≤ 32 ∧ (16 : Int) = ((2 ^ (4 : Int).toNat : Nat) : Int)) := lI ⟨om, om, rfl⟩
  have P8 : Hid ((0 : Int) ≤ 8 ∧ (8 : Int) ≤ 32 ∧ (256 : Int) = ((2 ^ (8 : Int).toNat : Nat) : Int)) := lI ⟨om, om, rfl⟩
  go_enter Try.func65, Try.ntmps65
  go_wp2_with (go_at_call 79; first | ((with_reducible refine (power1h 4 16 _ P4).mono ?_); rintro e w' ⟨rfl, rfl⟩) | ((with_reducible refine (power1h 8 256 _ P8).mono ?_); rintro e w' ⟨rfl, rfl⟩))
  go_ret
  exact ⟨ret_int zG, rfl⟩
theorem cut2_25_26 (x : Int) (w : World) (hx : U32 x) : Calls Try.prog 65 #[.int .u32 x, .int .i64 25, .int .i64 26] w fun e w' => e = .returned (.int .i64 (x / 33554432 % 4)) ∧ w = w' := by
  obtain ⟨h0, h1⟩ := hx
  have P2 : Hid ((0 : Int) ≤ 2 ∧ (2 : Int) ≤ 32 ∧ (4 : Int) = ((2 ^ (2 : Int).toNat : Nat) : Int)) := lI ⟨om, om, rfl⟩
  have P25 : Hid ((0 : Int) ≤ 25 ∧ (25 : Int) ≤ 32 ∧ (33554432 : Int) = ((2 ^ (25 : Int).toNat : Nat) : Int)) := lI ⟨om, om, rfl⟩
  go_enter Try.func65, Try.ntmps65
  go_wp2_with (go_at_call 79; first | ((with_reducible refine (power1h 2 4 _ P2).mono ?_); rintro e w' ⟨rfl, rfl⟩) | ((with_reducible refine (power1h 25 33554432 _ P25).mono ?_); rintro e w' ⟨rfl, rfl⟩))
  go_ret
  exact ⟨ret_int zG, rfl⟩
theorem signed2_12 (n : Int) (w : World) (h : 0 ≤ n ∧ n < 4096) : Calls Try.prog 67 #[.int .i64 n, .int .i64 12] w fun e w' => e = .returned (.int .i32 (sgn 2048 n)) ∧ w = w' := by
  obtain ⟨h0, h1⟩ := h
  have P : Hid ((0 : Int) ≤ 11 ∧ (11 : Int) ≤ 32 ∧ (2048 : Int) = ((2 ^ (11 : Int).toNat : Nat) : Int)) := lI ⟨om, om, rfl⟩
  go_enter Try.func67, Try.ntmps67
  go_wp2_with (go_at_call 79; ((with_reducible refine (power1h 11 2048 _ P).mono ?_); rintro e w' ⟨rfl, rfl⟩))
  all_goals go_ret
  all_goals refine ⟨ret_int ?_, rfl⟩
  all_goals unfold sgn
  all_goals first | (rw [if_pos om]; done) | (rw [if_neg om]; done) | (split <;> omega) | (split <;> (unfold wrap32; omega))
theorem signed2_13 (n : Int) (w : World) (h : 0 ≤ n ∧ n < 8192) : Calls Try.prog 67 #[.int .i64 n, .int .i64 13] w fun e w' => e = .returned (.int .i32 (sgn 4096 n)) ∧ w = w' := by
  obtain ⟨h0, h1⟩ := h
  have P : Hid ((0 : Int) ≤ 12 ∧ (12 : Int) ≤ 32 ∧ (4096 : Int) = ((2 ^ (12 : Int).toNat : Nat) : Int)) := lI ⟨om, om, rfl⟩
  go_enter Try.func67, Try.ntmps67
  go_wp2_with (go_at_call 79; ((with_reducible refine (power1h 12 4096 _ P).mono ?_); rintro e w' ⟨rfl, rfl⟩))
  all_goals go_ret
  all_goals refine ⟨ret_int ?_, rfl⟩
  all_goals unfold sgn
  all_goals first | (rw [if_pos om]; done) | (rw [if_neg om]; done) | (split <;> omega) | (split <;> (unfold wrap32; omega))
theorem signed2_21 (n : Int) (w : World) (h : 0 ≤ n ∧ n < 2097152) : Calls Try.prog 67 #[.int .i64 n, .int .i64 21] w fun e w' => e = .returned (.int .i32 (sgn 1048576 n)) ∧ w = w' := by
  obtain ⟨h0, h1⟩ := h
  have P : Hid ((0 : Int) ≤ 20 ∧ (20 : Int) ≤ 32 ∧ (1048576 : Int) = ((2 ^ (20 : Int).toNat : Nat) : Int)) := lI ⟨om, om, rfl⟩
  go_enter Try.func67, Try.ntmps67
  go_wp2_with (go_at_call 79; ((with_reducible refine (power1h 20 1048576 _ P).mono ?_); rintro e w' ⟨rfl, rfl⟩))
  all_goals go_ret
  all_goals refine ⟨ret_int ?_, rfl⟩
  all_goals unfold sgn
  all_goals first | (rw [if_pos om]; done) | (rw [if_neg om]; done) | (split <;> omega) | (split <;> (unfold wrap32; omega))
theorem pickS_at (n : Int) : ∀ (la lo : List Int) (k : Nat) (h : k < la.length) (h2 : k < lo.length), la[k] = n → (∀ j (hj : j < la.length), j < k → la[j] ≠ n) → pickS n la lo = lo[k]
  | a :: la, o :: lo, 0, _, _, h, _ => by simp only [List.getElem_cons_zero] at h; simp [pickS, h]
  | a :: la, o :: lo, k + 1, hk, hk2, h, hn => by
    have h0 := hn 0 zH om
    simp only [List.getElem_cons_zero] at h0
    rw [pickS, if_neg h0]
    exact pickS_at n la lo k (by simpa using hk) (by simpa using hk2) (by simpa using h) (fun j hj hjk => by
      have := hn (j + 1) zP om
      simpa using this)
  | [], _, k, h, _, _, _ => by simp at h
  | _ :: _, [], k, _, h, _, _ => by simp at h
theorem pickS_no (n : Int) : ∀ (la lo : List Int), (∀ j (hj : j < la.length), la[j] ≠ n) → pickS n la lo = -1
  | a :: la, o :: lo, hn => by
    have h0 := hn 0 zH
    simp only [List.getElem_cons_zero] at h0
    rw [pickS, if_neg h0]
    exact pickS_no n la lo (fun j hj => by
      have := hn (j + 1) zP
      simpa using this)
  | [], _, _ => by simp [pickS]
  | _ :: _, [], _ => by simp [pickS]
theorem pick2_any (n : Int) (la lo : List Int) (va vo : Value) (w : World) (ha : Ints .i64 w va la) (ho : Ints .i64 w vo lo) (hl : la.length = lo.length) :
    Calls Try.prog 92 #[.int .i64 n, va, vo] w fun e w' => e = .returned (.int .i64 (pickS n la lo)) ∧ w = w' := by
  obtain ⟨aa, capa, rfl, hca, hma, _, hoa⟩ := ha.open
  obtain ⟨ao, capo, rfl, hco, hmo, _, hoo⟩ := ho.open
  unfold maxLen at hma hmo
  have hle : la.length ≤ lo.length := om
  clear hl
  have HA := lI hoa
  have HO := lI hoo
  clear hoa hoo ha ho
  go_enter Try.func92, Try.ntmps92
  go_wp2
  go_loop [7] (fun i => ∃ k : Nat, i = .int .i64 k ∧ k ≤ la.length ∧ Hid (∀ j (hj : j < la.length), j < k → la[j] ≠ n)) (fun i => la.length - (intOf i).toNat)
  case atStart => exact ⟨0, rfl, om, lI (by intro j hj h; omega)⟩
  case round =>
    obtain ⟨k, rfl, hk, HN⟩ := hrel
    by_cases hlt : k < la.length
    · obtain ⟨b, off, rfl, _, hcell⟩ := HA.out zO
      obtain ⟨b', off', rfl, _, hcell'⟩ := HO.out (by intro e; rw [e] at hle; simp at hle; rw [hle] at hlt; simp at hlt)
      have c1 := hcell k hlt
      have c2 := hcell' k om
      have e1 : la.getD k 0 = la[k] := by rw [List.getD, List.getElem?_eq_getElem hlt]; rfl
      have e2 : lo.getD k 0 = lo[k]'om := by rw [List.getD, List.getElem?_eq_getElem om]; rfl
      rw [e1] at c1
      rw [e2] at c2
      have HP : Hid (la[k] = n → pickS n la lo = lo[k]'om) := lI (fun h => pickS_at n la lo k hlt om h HN.out)
      have HN2 : Hid (la[k] ≠ n → ∀ j (hj : j < la.length), j < k + 1 → la[j] ≠ n) := lI (fun h j hj h2 => if e : j = k then by subst e; exact h else HN.out j hj om)
      clear hcell hcell' e1 e2 HN
      generalize la[k] = y at *
      generalize lo[k]'om = z at *
      by_cases hy : y = n
      · have hP := lI (HP.out hy)
        have g : (y == n) = true := by simpa using hy
        clear HP HN2 hy
        go_wp2
        go_ret
        exact ⟨ret_int hP.out.symm, rfl⟩
      · have hN := lI (HN2.out hy)
        have g : (y == n) = false := by simpa using hy
        clear HP HN2 hy
        go_wp2
        go_round
        case rel => exact ⟨k + 1, by go_num, om, hN⟩
        case measure => simp [intOf]; omega
    · have hP : Hid (pickS n la lo = -1) := lI (pickS_no n la lo (fun j hj => HN.out j hj om))
      clear HN
      go_wp2
      go_ret
      exact ⟨ret_int hP.out.symm, rfl⟩
end Go.Proofs.Ytlfnddmncbkjaac.W
