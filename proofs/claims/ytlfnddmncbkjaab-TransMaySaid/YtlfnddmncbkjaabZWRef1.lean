/- The walks of ferrybridgeref1: words by whole numbers. -/
import Derived.Test.YtlfnddmncbkjaabZMA
namespace Go.Proofs.Ytlfnddmncbkjaab.W
set_option linter.unusedVariables false
set_option linter.unusedSimpArgs false
open Go.RowKit Fb
set_option maxHeartbeats 400000 in
theorem of1 (n : Int) (w : World) (h : -9223372036854775808 ≤ n ∧ n ≤ 9223372036854775807) :
    Calls Try.prog 60 #[.int .i64 n] w fun e w' => e = .returned (.int .u32 (n % 4294967296)) ∧ w = w' := by
  by_cases hn : 0 ≤ n
  all_goals
    go_enter Try.func60, Try.ntmps60
    go_wp2
    all_goals go_ret
    all_goals refine ⟨ret_int ?_, rfl⟩
    all_goals first
      | rfl
      | (have hq := Int.tmod_def n 4294967296; unfold wrap64; omega)
      | (have hq := Int.tmod_def n 4294967296; omega)
theorem signed1 (a : Int) (w : World) (h : U32 a) :
    Calls Try.prog 59 #[.int .u32 a] w fun e w' => e = .returned (.int .i64 (wrap32 a)) ∧ w = w' := by
  have hs := signed_wrap h
  have HS := Lib.hid hs
  clear hs
  obtain ⟨h0, h1⟩ := h
  go_enter Try.func59, Try.ntmps59
  go_wp2
  all_goals go_ret
  all_goals refine ⟨ret_int ?_, rfl⟩
  all_goals rw [← HS.out]
  all_goals first | (rw [if_pos (by assumption)]; done) | (rw [if_neg (by omega)]; done)
set_option maxHeartbeats 400000 in
theorem power1 (n : Int) (w : World) (h : 0 ≤ n ∧ n ≤ 32) :
    Calls Try.prog 62 #[.int .i64 n] w fun e w' => e = .returned (.int .i64 ((2 ^ n.toNat : Nat) : Int)) ∧ w = w' := by
  obtain ⟨h0, h1⟩ := h
  obtain ⟨n, rfl⟩ := Int.eq_ofNat_of_zero_le h0
  have hn : n ≤ 32 := by omega
  rw [Int.toNat_natCast]
  clear h0 h1
  go_enter Try.func62, Try.ntmps62
  go_wp2
  go_loop [3, 4] (fun p i => ∃ (k pw : Nat), i = .int .i64 k ∧ k ≤ n ∧ p = .int .i64 pw ∧ pw ≤ 4294967296 ∧ Hid (pw = 2 ^ k)) (fun _ i => n - (intOf i).toNat)
  case atStart => exact ⟨0, 1, rfl, by omega, rfl, by omega, Lib.hid rfl⟩
  case round =>
    obtain ⟨k, pw, rfl, hk, rfl, hpw, HP⟩ := hrel
    by_cases hlt : k < n
    · have h2 : pw + pw ≤ 4294967296 := by
        rw [HP.out]
        have := pow_le32 (k := k + 1) (by omega)
        rw [Nat.pow_succ] at this; omega
      go_wp2
      go_round
      case rel => exact ⟨k + 1, pw + pw, by go_num, by omega, by go_num, h2, Lib.hid (by rw [HP.out, Nat.pow_succ]; omega)⟩
      case measure => simp [intOf]; omega
    · obtain rfl : k = n := by omega
      go_wp2
      go_ret
      exact ⟨ret_int (by rw [HP.out]; rfl), rfl⟩
set_option maxHeartbeats 400000 in
theorem floor1 (a b : Int) (w : World) (hb : 0 < b ∧ b ≤ 4294967296) (ha : -9223372032559808512 ≤ a ∧ a ≤ 9223372032559808511) :
    Calls Try.prog 63 #[.int .i64 a, .int .i64 b] w fun e w' => e = .returned (.int .i64 (a / b)) ∧ w = w' := by
  have HE := Lib.hid (floor_eq a b hb.1)
  have h2 := Int.tmod_lt_of_pos a hb.1
  have h3 : -b < a.tmod b := Int.lt_tmod_of_pos a hb.1
  have hz : (b == 0) = false := by simpa using (by omega : b ≠ 0)
  have hz1 : (b == -1) = false := by simpa using (by omega : b ≠ -1)
  obtain ⟨hb0, hb1⟩ := hb
  go_enter Try.func63, Try.ntmps63
  go_wp2
  all_goals go_ret
  all_goals refine ⟨ret_int ?_, rfl⟩
  all_goals rw [← HE.out]
  all_goals first | (rw [if_pos (by assumption)]; done) | (rw [if_neg (by omega)]; done)
theorem truth1 (b : Bool) (w : World) :
    Calls Try.prog 64 #[.bool b] w fun e w' => e = .returned (.int .u32 (if b = true then 1 else 0)) ∧ w = w' := by
  cases b
  all_goals
    go_enter Try.func64, Try.ntmps64
    go_wp2
    go_ret
    exact ⟨rfl, rfl⟩
set_option maxHeartbeats 400000 in
theorem upper1 (a b : Int) (w : World) (ha : -2147483648 ≤ a ∧ a ≤ 4294967295) (hb : U32 b) :
    Calls Try.prog 65 #[.int .i64 a, .int .i64 b] w fun e w' => e = .returned (.int .u32 (a * b / 4294967296 % 4294967296)) ∧ w = w' := by
  obtain ⟨hb0, hb1⟩ := hb
  obtain ⟨p, hp⟩ : ∃ p, p = a * (b / 65536) := ⟨_, rfl⟩
  obtain ⟨q, hq⟩ : ∃ q, q = a * (b % 65536) := ⟨_, rfl⟩
  have b1 := mul_natAbs_le a (b / 65536) 4294967295 65535 (by omega) (by omega)
  have b2 := mul_natAbs_le a (b % 65536) 4294967295 65535 (by omega) (by omega)
  rw [← hp] at b1
  rw [← hq] at b2
  have HE : Hid ((p + q / 65536) / 65536 = a * b / 4294967296) := Lib.hid (by rw [upper_eq a (b % 65536) (b / 65536) p q hp hq]; congr 2; omega)
  have p1 : -281470681743360 ≤ p ∧ p ≤ 281470681743360 := by omega
  have q1 : -281470681743360 ≤ q ∧ q ≤ 281470681743360 := by omega
  clear b1 b2
  have e1 : wrap64 (a * (b / 65536)) = p := by rw [← hp]; unfold wrap64; omega
  have e2 : wrap64 (a * (b % 65536)) = q := by rw [← hq]; unfold wrap64; omega
  obtain ⟨p1, p2⟩ := p1
  obtain ⟨q1, q2⟩ := q1
  have HP := Lib.hid hp
  have HQ := Lib.hid hq
  clear hp hq
  go_enter Try.func65, Try.ntmps65
  go_wp2_with fail
  refine (floor1 _ _ _ (by omega) (by omega)).mono ?_; rintro e w' ⟨rfl, rfl⟩
  go_wp2_with fail
  refine (floor1 _ _ _ (by omega) (by omega)).mono ?_; rintro e w' ⟨rfl, rfl⟩
  go_wp2_with fail
  refine (of1 _ _ (by omega)).mono ?_; rintro e w' ⟨rfl, rfl⟩
  go_wp2_with fail
  go_ret
  exact ⟨ret_int (by rw [HE.out]), rfl⟩
set_option maxRecDepth 100000 in
set_option maxHeartbeats 1000000 in
theorem bits1 (o : BOp) (x y : Nat) (w : World) (hx : x < 4294967296) (hy : y < 4294967296) :
    Calls Try.prog 61 #[.int .i64 o.code, .int .u32 x, .int .u32 y] w fun e w' => e = .returned (.int .u32 (bits o.op .u32 x y)) ∧ w = w' := by
  rw [o.bits x y hx hy]
  have HZ := Lib.hid (show o.nat x y % 2 ^ 32 = o.nat x y from Nat.mod_eq_of_lt (o.lt hx hy))
  have HLT := Lib.hid (o.lt hx hy)
  have HO := fun k p q => o.round x y k p q
  have HR := Lib.hid HO
  clear HO
  cases o
  all_goals
    simp only [BOp.code, BOp.bit] at *
    generalize BOp.nat _ x y = z at *
    go_enter Try.func61, Try.ntmps61
    go_wp2
    go_loop [7, 8, 9, 10] (fun xs ys ns i => ∃ (k X Y n : Nat), i = .int .i64 k ∧ k ≤ 32 ∧ xs = .int .i64 X ∧ ys = .int .i64 Y ∧ ns = .int .i64 n ∧ X ≤ 4294967296 ∧ Y ≤ 4294967296 ∧ n ≤ 4294967296 ∧ Hid (X = x / 2 ^ k ∧ Y = y / 2 ^ k ∧ n = z % 2 ^ k)) (fun _ _ _ i => 32 - (intOf i).toNat)
    case atStart => exact ⟨0, x, y, 0, rfl, by omega, rfl, rfl, rfl, by omega, by omega, by omega, Lib.hid ⟨by simp, by simp, by simp [Nat.mod_one]⟩⟩
    case round =>
      obtain ⟨k, X, Y, n, rfl, hk, rfl, rfl, rfl, hX, hY, hn, HS⟩ := hrel
      by_cases hlt : k < 32
      · have hrd := HR.out k (decide (X % 2 = 1)) (decide (Y % 2 = 1)) (by rw [HS.out.1]) (by rw [HS.out.2.1])
        rw [← HS.out.2.2] at hrd
        have hn2 : z % 2 ^ (k + 1) ≤ 4294967296 := Nat.le_trans (Nat.mod_le _ _) (Nat.le_of_lt HLT.out)
        have hp32 := pow_le31 (k := k) (by omega)
        have hp0 : 0 < 2 ^ k := Nat.pow_pos (by decide)
        have HX : Hid (X / 2 = x / 2 ^ (k + 1) ∧ Y / 2 = y / 2 ^ (k + 1)) := Lib.hid ⟨by rw [div_more, HS.out.1], by rw [div_more, HS.out.2.1]⟩
        have hpw := power1 (k : Int)
        rw [Int.toNat_natCast] at hpw
        have HPW := Lib.hid hpw
        clear hpw
        have hx2 : X % 2 = 0 ∨ X % 2 = 1 := by omega
        have hy2 : Y % 2 = 0 ∨ Y % 2 = 1 := by omega
        rcases hx2 with hx2 | hx2 <;> rcases hy2 with hy2 | hy2
        all_goals
          rw [hx2, hy2] at hrd
          simp only [Nat.zero_ne_one, decide_true, decide_false, Bool.and_true, Bool.and_false, Bool.or_true, Bool.or_false, Bool.false_eq_true, if_true, if_false, bne_self_eq_false, Nat.add_zero, Bool.true_bne, Bool.false_bne, Bool.not_true, Bool.not_false] at hrd
          have q1 : ((X : Int) % 2 == 1) = decide (X % 2 = 1) := by rw [hx2]; first | (rw [beq_eq_false_iff_ne.2 (by omega)]; rfl) | (rw [beq_iff_eq.2 (by omega)]; rfl)
          have q2 : ((Y : Int) % 2 == 1) = decide (Y % 2 = 1) := by rw [hy2]; first | (rw [beq_eq_false_iff_ne.2 (by omega)]; rfl) | (rw [beq_iff_eq.2 (by omega)]; rfl)
          rw [hx2] at q1
          rw [hy2] at q2
          simp only [Nat.zero_ne_one, decide_true, decide_false] at q1 q2
          generalize 2 ^ k = pw at *
          have HRD := Lib.hid hrd
          have HN2 := Lib.hid hn2
          have hsum : z % 2 ^ (k + 1) = n ∨ z % 2 ^ (k + 1) = n + pw := by omega
          clear hrd hn2 hx2 hy2 hsum
          go_wp2_with (refine (HPW.out _ (by omega)).mono ?_; rintro e w' ⟨rfl, rfl⟩)
          go_round
          case rel => exact ⟨k + 1, X / 2, Y / 2, z % 2 ^ (k + 1), by go_num, by omega, by go_num, by go_num, by first | (rw [HRD.out]; done) | (rw [HRD.out]; go_num), by omega, by omega, HN2.out, Lib.hid ⟨HX.out.1, HX.out.2, rfl⟩⟩
          case measure => simp [intOf]; omega
      · obtain rfl : k = 32 := by omega
        have hz : n = z := by rw [HS.out.2.2, HZ.out]
        subst hz
        have hzl := HLT.out
        clear hk hlt
        go_wp2_with (refine (of1 _ _ (by omega)).mono ?_; rintro e w' ⟨rfl, rfl⟩)
        go_ret
        exact ⟨ret_int (by omega), rfl⟩
end Go.Proofs.Ytlfnddmncbkjaab.W
