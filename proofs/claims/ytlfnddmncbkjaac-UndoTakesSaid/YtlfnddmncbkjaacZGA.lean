import Derived.Test.YtlfnddmncbkjaacZMA
import Derived.Test.YtlfnddmncbkjaacZMB
set_option linter.unusedVariables false
set_option linter.unusedSimpArgs false
set_option maxRecDepth 100000
set_option maxHeartbeats 4000000
namespace Go.Proofs.Ytlfnddmncbkjaac.W
open Go.RowKit Fb
theorem of1 (n : Int) (w : World) (h : -9223372036854775808 ≤ n ∧ n ≤ 9223372036854775807) :
    Calls Try.prog 50 #[.int .i64 n] w fun e w' => e = .returned (.int .u32 (n % 4294967296)) ∧ w = w' := by
  by_cases hn : 0 ≤ n
  all_goals
    go_enter Try.func50, Try.ntmps50
    go_wp2
    all_goals go_ret
    all_goals refine ⟨ret_int ?_, rfl⟩
    all_goals first
      | rfl
      | (have hq := Int.tmod_def n 4294967296; unfold wrap64; omega)
      | (have hq := Int.tmod_def n 4294967296; omega)
theorem signed1 (a : Int) (w : World) (h : U32 a) :
    Calls Try.prog 66 #[.int .u32 a] w fun e w' => e = .returned (.int .i64 (wrap32 a)) ∧ w = w' := by
  have hs := signed_wrap h
  have HS := lI hs
  clear hs
  obtain ⟨h0, h1⟩ := h
  go_enter Try.func66, Try.ntmps66
  go_wp2
  all_goals go_ret
  all_goals refine ⟨ret_int ?_, rfl⟩
  all_goals rw [← HS.out]
  all_goals first | (rw [if_pos (by assumption)]; done) | (rw [if_neg om]; done)
theorem power1 (n : Int) (w : World) (h : 0 ≤ n ∧ n ≤ 32) :
    Calls Try.prog 79 #[.int .i64 n] w fun e w' => e = .returned (.int .i64 ((2 ^ n.toNat : Nat) : Int)) ∧ w = w' := by
  obtain ⟨h0, h1⟩ := h
  obtain ⟨n, rfl⟩ := Int.eq_ofNat_of_zero_le h0
  have hn : n ≤ 32 := om
  rw [Int.toNat_natCast]
  clear h0 h1
  go_enter Try.func79, Try.ntmps79
  go_wp2
  go_loop [3, 4] (fun p i => ∃ (k pw : Nat), i = .int .i64 k ∧ k ≤ n ∧ p = .int .i64 pw ∧ pw ≤ 4294967296 ∧ Hid (pw = 2 ^ k)) (fun _ i => n - (intOf i).toNat)
  case atStart => exact ⟨0, 1, rfl, om, rfl, om, lI rfl⟩
  case round =>
    obtain ⟨k, pw, rfl, hk, rfl, hpw, HP⟩ := hrel
    by_cases hlt : k < n
    · have h2 : pw + pw ≤ 4294967296 := by
        rw [HP.out]
        have := pow_le32 (k := k + 1) om
        rw [Nat.pow_succ] at this; omega
      go_wp2
      go_round
      case rel => exact ⟨k + 1, pw + pw, by go_num, om, by go_num, h2, lI (by rw [HP.out, Nat.pow_succ]; omega)⟩
      case measure => simp [intOf]; omega
    · obtain rfl : k = n := om
      go_wp2
      go_ret
      exact ⟨ret_int (by rw [HP.out]; rfl), rfl⟩
theorem floor1 (a b : Int) (w : World) (hb : 0 < b ∧ b ≤ 4294967296) (ha : -9223372032559808512 ≤ a ∧ a ≤ 9223372032559808511) :
    Calls Try.prog 80 #[.int .i64 a, .int .i64 b] w fun e w' => e = .returned (.int .i64 (a / b)) ∧ w = w' := by
  have HE := lI (floor_eq a b hb.1)
  have h2 := Int.tmod_lt_of_pos a hb.1
  have h3 : -b < a.tmod b := Int.lt_tmod_of_pos a hb.1
  have hz : (b == 0) = false := by simpa using (by omega : b ≠ 0)
  have hz1 : (b == -1) = false := by simpa using (by omega : b ≠ -1)
  obtain ⟨hb0, hb1⟩ := hb
  go_enter Try.func80, Try.ntmps80
  go_wp2
  all_goals go_ret
  all_goals refine ⟨ret_int ?_, rfl⟩
  all_goals rw [← HE.out]
  all_goals first | (rw [if_pos (by assumption)]; done) | (rw [if_neg om]; done)
theorem truth1 (b : Bool) (w : World) :
    Calls Try.prog 81 #[.bool b] w fun e w' => e = .returned (.int .u32 (if b = true then 1 else 0)) ∧ w = w' := by
  cases b
  all_goals
    go_enter Try.func81, Try.ntmps81
    go_wp2
    go_ret
    exact ⟨rfl, rfl⟩
theorem upper1 (a b : Int) (w : World) (ha : -2147483648 ≤ a ∧ a ≤ 4294967295) (hb : U32 b) :
    Calls Try.prog 82 #[.int .i64 a, .int .i64 b] w fun e w' => e = .returned (.int .u32 (a * b / 4294967296 % 4294967296)) ∧ w = w' := by
  obtain ⟨hb0, hb1⟩ := hb
  obtain ⟨p, hp⟩ : ∃ p, p = a * (b / 65536) := ⟨_, rfl⟩
  obtain ⟨q, hq⟩ : ∃ q, q = a * (b % 65536) := ⟨_, rfl⟩
  have b1 := mul_natAbs_le a (b / 65536) 4294967295 65535 om om
  have b2 := mul_natAbs_le a (b % 65536) 4294967295 65535 om om
  rw [← hp] at b1
  rw [← hq] at b2
  have HE : Hid ((p + q / 65536) / 65536 = a * b / 4294967296) := lI (by rw [upper_eq a (b % 65536) (b / 65536) p q hp hq]; congr 2; omega)
  have p1 : -281470681743360 ≤ p ∧ p ≤ 281470681743360 := om
  have q1 : -281470681743360 ≤ q ∧ q ≤ 281470681743360 := om
  clear b1 b2
  have e1 : wrap64 (a * (b / 65536)) = p := by rw [← hp]; unfold wrap64; omega
  have e2 : wrap64 (a * (b % 65536)) = q := by rw [← hq]; unfold wrap64; omega
  obtain ⟨p1, p2⟩ := p1
  obtain ⟨q1, q2⟩ := q1
  have HP := lI hp
  have HQ := lI hq
  clear hp hq
  go_enter Try.func82, Try.ntmps82
  go_wp2_with fail
  refine (floor1 _ _ _ om om).mono ?_; rintro e w' ⟨rfl, rfl⟩
  go_wp2_with fail
  refine (floor1 _ _ _ om om).mono ?_; rintro e w' ⟨rfl, rfl⟩
  go_wp2_with fail
  refine (of1 _ _ om).mono ?_; rintro e w' ⟨rfl, rfl⟩
  go_wp2_with fail
  go_ret
  exact ⟨ret_int (by rw [HE.out]), rfl⟩
theorem bits1 (o : BOp) (x y : Nat) (w : World) (hx : x < 4294967296) (hy : y < 4294967296) :
    Calls Try.prog 78 #[.int .i64 o.code, .int .u32 x, .int .u32 y] w fun e w' => e = .returned (.int .u32 (bits o.op .u32 x y)) ∧ w = w' := by
  rw [o.bits x y hx hy]
  have HZ := lI (show o.nat x y % 2 ^ 32 = o.nat x y from Nat.mod_eq_of_lt (o.lt hx hy))
  have HLT := lI (o.lt hx hy)
  have HO := fun k p q => o.round x y k p q
  have HR := lI HO
  clear HO
  cases o
  all_goals
    simp only [BOp.code, BOp.bit] at *
    generalize BOp.nat _ x y = z at *
    go_enter Try.func78, Try.ntmps78
    go_wp2
    go_loop [7, 8, 9, 10] (fun xs ys ns i => ∃ (k X Y n : Nat), i = .int .i64 k ∧ k ≤ 32 ∧ xs = .int .i64 X ∧ ys = .int .i64 Y ∧ ns = .int .i64 n ∧ X ≤ 4294967296 ∧ Y ≤ 4294967296 ∧ n ≤ 4294967296 ∧ Hid (X = x / 2 ^ k ∧ Y = y / 2 ^ k ∧ n = z % 2 ^ k)) (fun _ _ _ i => 32 - (intOf i).toNat)
    case atStart => exact ⟨0, x, y, 0, rfl, om, rfl, rfl, rfl, om, om, om, lI ⟨by simp, by simp, by simp [Nat.mod_one]⟩⟩
    case round =>
      obtain ⟨k, X, Y, n, rfl, hk, rfl, rfl, rfl, hX, hY, hn, HS⟩ := hrel
      by_cases hlt : k < 32
      · have hrd := HR.out k (decide (X % 2 = 1)) (decide (Y % 2 = 1)) (by rw [HS.out.1]) (by rw [HS.out.2.1])
        rw [← HS.out.2.2] at hrd
        have hn2 : z % 2 ^ (k + 1) ≤ 4294967296 := Nat.le_trans (Nat.mod_le _ _) (Nat.le_of_lt HLT.out)
        have hp32 := pow_le31 (k := k) om
        have hp0 : 0 < 2 ^ k := Nat.pow_pos zN
        have HX : Hid (X / 2 = x / 2 ^ (k + 1) ∧ Y / 2 = y / 2 ^ (k + 1)) := lI ⟨by rw [div_more, HS.out.1], by rw [div_more, HS.out.2.1]⟩
        have hpw := power1 (k : Int)
        rw [Int.toNat_natCast] at hpw
        have HPW := lI hpw
        clear hpw
        have hx2 : X % 2 = 0 ∨ X % 2 = 1 := om
        have hy2 : Y % 2 = 0 ∨ Y % 2 = 1 := om
        rcases hx2 with hx2 | hx2 <;> rcases hy2 with hy2 | hy2
        all_goals
          rw [hx2, hy2] at hrd
          simp only [Nat.zero_ne_one, decide_true, decide_false, Bool.and_true, Bool.and_false, Bool.or_true, Bool.or_false, Bool.false_eq_true, if_true, if_false, bne_self_eq_false, Nat.add_zero, Bool.true_bne, Bool.false_bne, Bool.not_true, Bool.not_false] at hrd
          have q1 : ((X : Int) % 2 == 1) = decide (X % 2 = 1) := by rw [hx2]; first | (rw [beq_eq_false_iff_ne.2 om]; rfl) | (rw [beq_iff_eq.2 om]; rfl)
          have q2 : ((Y : Int) % 2 == 1) = decide (Y % 2 = 1) := by rw [hy2]; first | (rw [beq_eq_false_iff_ne.2 om]; rfl) | (rw [beq_iff_eq.2 om]; rfl)
          rw [hx2] at q1
          rw [hy2] at q2
          simp only [Nat.zero_ne_one, decide_true, decide_false] at q1 q2
          generalize 2 ^ k = pw at *
          have HRD := lI hrd
          have HN2 := lI hn2
          have hsum : z % 2 ^ (k + 1) = n ∨ z % 2 ^ (k + 1) = n + pw := om
          clear hrd hn2 hx2 hy2 hsum
          go_wp2_with (refine (HPW.out _ om).mono ?_; rintro e w' ⟨rfl, rfl⟩)
          go_round
          case rel => exact ⟨k + 1, X / 2, Y / 2, z % 2 ^ (k + 1), by go_num, om, by go_num, by go_num, by first | (rw [HRD.out]; done) | (rw [HRD.out]; go_num), om, om, HN2.out, lI ⟨HX.out.1, HX.out.2, rfl⟩⟩
          case measure => simp [intOf]; omega
      · obtain rfl : k = 32 := om
        have hz : n = z := by rw [HS.out.2.2, HZ.out]
        subst hz
        have hzl := HLT.out
        clear hk hlt
        go_wp2_with (refine (of1 _ _ om).mono ?_; rintro e w' ⟨rfl, rfl⟩)
        go_ret
        exact ⟨ret_int om, rfl⟩
theorem signed1s (a sa : Int) (w : World) (h : Hid (sa = wrap32 a)) (hu : Hid (U32 a)) : Calls Try.prog 66 #[.int .u32 a] w fun e w' => e = .returned (.int .i64 sa) ∧ w = w' := by
  rw [h.out]; exact signed1 a w hu.out
theorem bits1i (o : BOp) (a b : Int) (w : World) (ha : U32 a) (hb : U32 b) :
    Calls Try.prog 78 #[.int .i64 o.code, .int .u32 a, .int .u32 b] w fun e w' => e = .returned (.int .u32 (bits o.op .u32 a b)) ∧ w = w' := by
  obtain ⟨x, rfl⟩ := Int.eq_ofNat_of_zero_le ha.1
  obtain ⟨y, rfl⟩ := Int.eq_ofNat_of_zero_le hb.1
  exact bits1 o x y w (by have := ha.2; omega) (by have := hb.2; omega)
theorem tdiv_small' (a b : Int) (ha : -2147483648 ≤ a) (ha' : a ≤ 2147483647) (h0 : b ≠ 0) : -2147483648 ≤ a.tdiv b ∧ a.tdiv b ≤ 2147483648 := by
  have h : (a.tdiv b).natAbs = a.natAbs / b.natAbs := Int.natAbs_tdiv a b
  have h2 : a.natAbs / b.natAbs ≤ a.natAbs := Nat.div_le_self _ _
  by_cases hb : b.natAbs = 1
  · rcases (by omega : b = 1 ∨ b = -1) with rfl | rfl
    · simp; omega
    · simp; omega
  · have h3 : a.natAbs / b.natAbs ≤ a.natAbs / 2 := Nat.div_le_div_left om zN
    omega
theorem alu1_28 (a b sa sb : Int) (w : World) (ha : 0 ≤ a) (ha' : a < 4294967296) (hb : 0 ≤ b) (hb' : b < 4294967296) (HSA : Hid (sa = wrap32 a)) (HSB : Hid (sb = wrap32 b))
    (hs1 : -2147483648 ≤ sa) (hs2 : sa ≤ 2147483647) (hs3 : -2147483648 ≤ sb) (hs4 : sb ≤ 2147483647) (HUA : Hid (U32 a)) (HUB : Hid (U32 b)) :
    Calls Try.prog 55 #[.int .i64 28, .int .u32 a, .int .u32 b] w fun e w' => e = .returned (.int .u32 (alu 28 a b)) ∧ ∃ n, w' = w.drewN n := by
  go_enter Try.func55, Try.ntmps55
  go_wp2_with (first | (go_at_call 66; ((with_reducible refine (signed1s a sa _ HSA HUA).mono ?_); rintro e w' ⟨rfl, rfl⟩)) | (go_at_call 66; ((with_reducible refine (signed1s b sb _ HSB HUB).mono ?_); rintro e w' ⟨rfl, rfl⟩)) | (go_at_call 50; refine (of1 _ _ ?_).mono ?_; (first | omega | (unfold wrap64; omega)); rintro e w' ⟨rfl, rfl⟩))
  all_goals go_ret
  all_goals refine ⟨ret_int ?_, 0, rfl⟩
  · rfl
theorem alu1_29 (a b sa sb : Int) (w : World) (ha : 0 ≤ a) (ha' : a < 4294967296) (hb : 0 ≤ b) (hb' : b < 4294967296) (HSA : Hid (sa = wrap32 a)) (HSB : Hid (sb = wrap32 b))
    (hs1 : -2147483648 ≤ sa) (hs2 : sa ≤ 2147483647) (hs3 : -2147483648 ≤ sb) (hs4 : sb ≤ 2147483647) (HUA : Hid (U32 a)) (HUB : Hid (U32 b)) :
    Calls Try.prog 55 #[.int .i64 29, .int .u32 a, .int .u32 b] w fun e w' => e = .returned (.int .u32 (alu 29 a b)) ∧ ∃ n, w' = w.drewN n := by
  go_enter Try.func55, Try.ntmps55
  go_wp2_with (first | (go_at_call 66; ((with_reducible refine (signed1s a sa _ HSA HUA).mono ?_); rintro e w' ⟨rfl, rfl⟩)) | (go_at_call 66; ((with_reducible refine (signed1s b sb _ HSB HUB).mono ?_); rintro e w' ⟨rfl, rfl⟩)) | (go_at_call 50; refine (of1 _ _ ?_).mono ?_; (first | omega | (unfold wrap64; omega)); rintro e w' ⟨rfl, rfl⟩))
  all_goals go_ret
  all_goals refine ⟨ret_int ?_, 0, rfl⟩
  · rfl
theorem alu1_37 (a b sa sb : Int) (w : World) (ha : 0 ≤ a) (ha' : a < 4294967296) (hb : 0 ≤ b) (hb' : b < 4294967296) (HSA : Hid (sa = wrap32 a)) (HSB : Hid (sb = wrap32 b))
    (hs1 : -2147483648 ≤ sa) (hs2 : sa ≤ 2147483647) (hs3 : -2147483648 ≤ sb) (hs4 : sb ≤ 2147483647) (HUA : Hid (U32 a)) (HUB : Hid (U32 b)) :
    Calls Try.prog 55 #[.int .i64 37, .int .u32 a, .int .u32 b] w fun e w' => e = .returned (.int .u32 (alu 37 a b)) ∧ ∃ n, w' = w.drewN n := by
  have HB := lI (fun w => bits1i .and a b w HUA.out HUB.out)
  go_enter Try.func55, Try.ntmps55
  go_wp2_with (first | (go_at_call 66; ((with_reducible refine (signed1s a sa _ HSA HUA).mono ?_); rintro e w' ⟨rfl, rfl⟩)) | (go_at_call 66; ((with_reducible refine (signed1s b sb _ HSB HUB).mono ?_); rintro e w' ⟨rfl, rfl⟩)) | (go_at_call 50; refine (of1 _ _ ?_).mono ?_; (first | omega | (unfold wrap64; omega)); rintro e w' ⟨rfl, rfl⟩) | (go_at_call 78; refine (HB.out _).mono ?_; rintro e w' ⟨rfl, rfl⟩))
  all_goals go_ret
  all_goals refine ⟨ret_int ?_, 0, rfl⟩
  · rfl
theorem alu1_36 (a b sa sb : Int) (w : World) (ha : 0 ≤ a) (ha' : a < 4294967296) (hb : 0 ≤ b) (hb' : b < 4294967296) (HSA : Hid (sa = wrap32 a)) (HSB : Hid (sb = wrap32 b))
    (hs1 : -2147483648 ≤ sa) (hs2 : sa ≤ 2147483647) (hs3 : -2147483648 ≤ sb) (hs4 : sb ≤ 2147483647) (HUA : Hid (U32 a)) (HUB : Hid (U32 b)) :
    Calls Try.prog 55 #[.int .i64 36, .int .u32 a, .int .u32 b] w fun e w' => e = .returned (.int .u32 (alu 36 a b)) ∧ ∃ n, w' = w.drewN n := by
  have HB := lI (fun w => bits1i .or a b w HUA.out HUB.out)
  go_enter Try.func55, Try.ntmps55
  go_wp2_with (first | (go_at_call 66; ((with_reducible refine (signed1s a sa _ HSA HUA).mono ?_); rintro e w' ⟨rfl, rfl⟩)) | (go_at_call 66; ((with_reducible refine (signed1s b sb _ HSB HUB).mono ?_); rintro e w' ⟨rfl, rfl⟩)) | (go_at_call 50; refine (of1 _ _ ?_).mono ?_; (first | omega | (unfold wrap64; omega)); rintro e w' ⟨rfl, rfl⟩) | (go_at_call 78; refine (HB.out _).mono ?_; rintro e w' ⟨rfl, rfl⟩))
  all_goals go_ret
  all_goals refine ⟨ret_int ?_, 0, rfl⟩
  · rfl
theorem alu1_33 (a b sa sb : Int) (w : World) (ha : 0 ≤ a) (ha' : a < 4294967296) (hb : 0 ≤ b) (hb' : b < 4294967296) (HSA : Hid (sa = wrap32 a)) (HSB : Hid (sb = wrap32 b))
    (hs1 : -2147483648 ≤ sa) (hs2 : sa ≤ 2147483647) (hs3 : -2147483648 ≤ sb) (hs4 : sb ≤ 2147483647) (HUA : Hid (U32 a)) (HUB : Hid (U32 b)) :
    Calls Try.prog 55 #[.int .i64 33, .int .u32 a, .int .u32 b] w fun e w' => e = .returned (.int .u32 (alu 33 a b)) ∧ ∃ n, w' = w.drewN n := by
  have HB := lI (fun w => bits1i .xor a b w HUA.out HUB.out)
  go_enter Try.func55, Try.ntmps55
  go_wp2_with (first | (go_at_call 66; ((with_reducible refine (signed1s a sa _ HSA HUA).mono ?_); rintro e w' ⟨rfl, rfl⟩)) | (go_at_call 66; ((with_reducible refine (signed1s b sb _ HSB HUB).mono ?_); rintro e w' ⟨rfl, rfl⟩)) | (go_at_call 50; refine (of1 _ _ ?_).mono ?_; (first | omega | (unfold wrap64; omega)); rintro e w' ⟨rfl, rfl⟩) | (go_at_call 78; refine (HB.out _).mono ?_; rintro e w' ⟨rfl, rfl⟩))
  all_goals go_ret
  all_goals refine ⟨ret_int ?_, 0, rfl⟩
  · rfl
theorem alu1_31 (a b sa sb : Int) (w : World) (ha : 0 ≤ a) (ha' : a < 4294967296) (hb : 0 ≤ b) (hb' : b < 4294967296) (HSA : Hid (sa = wrap32 a)) (HSB : Hid (sb = wrap32 b))
    (hs1 : -2147483648 ≤ sa) (hs2 : sa ≤ 2147483647) (hs3 : -2147483648 ≤ sb) (hs4 : sb ≤ 2147483647) (HUA : Hid (U32 a)) (HUB : Hid (U32 b)) :
    Calls Try.prog 55 #[.int .i64 31, .int .u32 a, .int .u32 b] w fun e w' => e = .returned (.int .u32 (alu 31 a b)) ∧ ∃ n, w' = w.drewN n := by
  go_enter Try.func55, Try.ntmps55
  go_wp2_with (first | (go_at_call 66; ((with_reducible refine (signed1s a sa _ HSA HUA).mono ?_); rintro e w' ⟨rfl, rfl⟩)) | (go_at_call 66; ((with_reducible refine (signed1s b sb _ HSB HUB).mono ?_); rintro e w' ⟨rfl, rfl⟩)) | (go_at_call 50; refine (of1 _ _ ?_).mono ?_; (first | omega | (unfold wrap64; omega)); rintro e w' ⟨rfl, rfl⟩) | (go_at_call 81; refine (truth1 _ _).mono ?_; rintro e w' ⟨rfl, rfl⟩))
  all_goals go_ret
  all_goals refine ⟨ret_int ?_, 0, rfl⟩
  all_goals (show _ = if wrap32 a < wrap32 b then (1 : Int) else 0; rw [← HSA.out, ← HSB.out]; first | (rw [if_pos (by assumption)]; done) | (rw [if_neg om]; done))
theorem alu1_32 (a b sa sb : Int) (w : World) (ha : 0 ≤ a) (ha' : a < 4294967296) (hb : 0 ≤ b) (hb' : b < 4294967296) (HSA : Hid (sa = wrap32 a)) (HSB : Hid (sb = wrap32 b))
    (hs1 : -2147483648 ≤ sa) (hs2 : sa ≤ 2147483647) (hs3 : -2147483648 ≤ sb) (hs4 : sb ≤ 2147483647) (HUA : Hid (U32 a)) (HUB : Hid (U32 b)) :
    Calls Try.prog 55 #[.int .i64 32, .int .u32 a, .int .u32 b] w fun e w' => e = .returned (.int .u32 (alu 32 a b)) ∧ ∃ n, w' = w.drewN n := by
  go_enter Try.func55, Try.ntmps55
  go_wp2_with (first | (go_at_call 66; ((with_reducible refine (signed1s a sa _ HSA HUA).mono ?_); rintro e w' ⟨rfl, rfl⟩)) | (go_at_call 66; ((with_reducible refine (signed1s b sb _ HSB HUB).mono ?_); rintro e w' ⟨rfl, rfl⟩)) | (go_at_call 50; refine (of1 _ _ ?_).mono ?_; (first | omega | (unfold wrap64; omega)); rintro e w' ⟨rfl, rfl⟩) | (go_at_call 81; refine (truth1 _ _).mono ?_; rintro e w' ⟨rfl, rfl⟩))
  all_goals go_ret
  all_goals refine ⟨ret_int ?_, 0, rfl⟩
  all_goals (show _ = if a < b then (1 : Int) else 0; first | (rw [if_pos (by assumption)]; done) | (rw [if_neg om]; done))
theorem alu1_38 (a b sa sb : Int) (w : World) (ha : 0 ≤ a) (ha' : a < 4294967296) (hb : 0 ≤ b) (hb' : b < 4294967296) (HSA : Hid (sa = wrap32 a)) (HSB : Hid (sb = wrap32 b))
    (hs1 : -2147483648 ≤ sa) (hs2 : sa ≤ 2147483647) (hs3 : -2147483648 ≤ sb) (hs4 : sb ≤ 2147483647) (HUA : Hid (U32 a)) (HUB : Hid (U32 b)) :
    Calls Try.prog 55 #[.int .i64 38, .int .u32 a, .int .u32 b] w fun e w' => e = .returned (.int .u32 (alu 38 a b)) ∧ ∃ n, w' = w.drewN n := by
  obtain ⟨p, hp⟩ : ∃ p, p = sa * sb := ⟨_, rfl⟩
  have hpb := mul_natAbs_le sa sb 2147483648 2147483648 om om
  rw [← hp] at hpb
  have p1 : -4611686018427387904 ≤ p := om
  have p2 : p ≤ 4611686018427387904 := om
  have e1 : wrap64 (sa * sb) = p := by rw [← hp]; unfold wrap64; omega
  have HP := lI hp
  clear hp hpb
  go_enter Try.func55, Try.ntmps55
  go_wp2_with (first | (go_at_call 66; ((with_reducible refine (signed1s a sa _ HSA HUA).mono ?_); rintro e w' ⟨rfl, rfl⟩)) | (go_at_call 66; ((with_reducible refine (signed1s b sb _ HSB HUB).mono ?_); rintro e w' ⟨rfl, rfl⟩)) | (go_at_call 50; refine (of1 _ _ ?_).mono ?_; (first | omega | (unfold wrap64; omega)); rintro e w' ⟨rfl, rfl⟩))
  all_goals go_ret
  all_goals refine ⟨ret_int ?_, 0, rfl⟩
  · rw [HP.out, HSA.out, HSB.out]
    obtain ⟨d, hd⟩ := wrap32_mod a
    obtain ⟨e, he⟩ := wrap32_mod b
    show _ = a * b % 4294967296
    conv => rhs; rw [Int.mul_emod, hd, he, Int.add_mul_emod_self_left, Int.add_mul_emod_self_left, ← Int.mul_emod]
theorem alu1_39 (a b sa sb : Int) (w : World) (ha : 0 ≤ a) (ha' : a < 4294967296) (hb : 0 ≤ b) (hb' : b < 4294967296) (HSA : Hid (sa = wrap32 a)) (HSB : Hid (sb = wrap32 b))
    (hs1 : -2147483648 ≤ sa) (hs2 : sa ≤ 2147483647) (hs3 : -2147483648 ≤ sb) (hs4 : sb ≤ 2147483647) (HUA : Hid (U32 a)) (HUB : Hid (U32 b)) :
    Calls Try.prog 55 #[.int .i64 39, .int .u32 a, .int .u32 b] w fun e w' => e = .returned (.int .u32 (alu 39 a b)) ∧ ∃ n, w' = w.drewN n := by
  obtain ⟨p, hp⟩ : ∃ p, p = sa * sb := ⟨_, rfl⟩
  have hpb := mul_natAbs_le sa sb 2147483648 2147483648 om om
  rw [← hp] at hpb
  have p1 : -4611686018427387904 ≤ p := om
  have p2 : p ≤ 4611686018427387904 := om
  have e1 : wrap64 (sa * sb) = p := by rw [← hp]; unfold wrap64; omega
  have HP := lI hp
  clear hp hpb
  go_enter Try.func55, Try.ntmps55
  go_wp2_with (first | (go_at_call 66; ((with_reducible refine (signed1s a sa _ HSA HUA).mono ?_); rintro e w' ⟨rfl, rfl⟩)) | (go_at_call 66; ((with_reducible refine (signed1s b sb _ HSB HUB).mono ?_); rintro e w' ⟨rfl, rfl⟩)) | (go_at_call 50; refine (of1 _ _ ?_).mono ?_; (first | omega | (unfold wrap64; omega)); rintro e w' ⟨rfl, rfl⟩) | (go_at_call 80; refine (floor1 _ _ _ ?_ ?_).mono ?_; omega; omega; rintro e w' ⟨rfl, rfl⟩))
  all_goals go_ret
  all_goals refine ⟨ret_int ?_, 0, rfl⟩
  · rw [HP.out, HSA.out, HSB.out]; rfl
theorem alu1_40 (a b sa sb : Int) (w : World) (ha : 0 ≤ a) (ha' : a < 4294967296) (hb : 0 ≤ b) (hb' : b < 4294967296) (HSA : Hid (sa = wrap32 a)) (HSB : Hid (sb = wrap32 b))
    (hs1 : -2147483648 ≤ sa) (hs2 : sa ≤ 2147483647) (hs3 : -2147483648 ≤ sb) (hs4 : sb ≤ 2147483647) (HUA : Hid (U32 a)) (HUB : Hid (U32 b)) :
    Calls Try.prog 55 #[.int .i64 40, .int .u32 a, .int .u32 b] w fun e w' => e = .returned (.int .u32 (alu 40 a b)) ∧ ∃ n, w' = w.drewN n := by
  go_enter Try.func55, Try.ntmps55
  go_wp2_with (first | (go_at_call 66; ((with_reducible refine (signed1s a sa _ HSA HUA).mono ?_); rintro e w' ⟨rfl, rfl⟩)) | (go_at_call 66; ((with_reducible refine (signed1s b sb _ HSB HUB).mono ?_); rintro e w' ⟨rfl, rfl⟩)) | (go_at_call 50; refine (of1 _ _ ?_).mono ?_; (first | omega | (unfold wrap64; omega)); rintro e w' ⟨rfl, rfl⟩) | (go_at_call 82; refine (upper1 _ _ _ ?_ ?_).mono ?_; omega; (exact HUB.out); rintro e w' ⟨rfl, rfl⟩))
  all_goals go_ret
  all_goals refine ⟨ret_int ?_, 0, rfl⟩
  · rw [HSA.out]; rfl
theorem alu1_41 (a b sa sb : Int) (w : World) (ha : 0 ≤ a) (ha' : a < 4294967296) (hb : 0 ≤ b) (hb' : b < 4294967296) (HSA : Hid (sa = wrap32 a)) (HSB : Hid (sb = wrap32 b))
    (hs1 : -2147483648 ≤ sa) (hs2 : sa ≤ 2147483647) (hs3 : -2147483648 ≤ sb) (hs4 : sb ≤ 2147483647) (HUA : Hid (U32 a)) (HUB : Hid (U32 b)) :
    Calls Try.prog 55 #[.int .i64 41, .int .u32 a, .int .u32 b] w fun e w' => e = .returned (.int .u32 (alu 41 a b)) ∧ ∃ n, w' = w.drewN n := by
  go_enter Try.func55, Try.ntmps55
  go_wp2_with (first | (go_at_call 66; ((with_reducible refine (signed1s a sa _ HSA HUA).mono ?_); rintro e w' ⟨rfl, rfl⟩)) | (go_at_call 66; ((with_reducible refine (signed1s b sb _ HSB HUB).mono ?_); rintro e w' ⟨rfl, rfl⟩)) | (go_at_call 50; refine (of1 _ _ ?_).mono ?_; (first | omega | (unfold wrap64; omega)); rintro e w' ⟨rfl, rfl⟩) | (go_at_call 82; refine (upper1 _ _ _ ?_ ?_).mono ?_; omega; (exact HUB.out); rintro e w' ⟨rfl, rfl⟩))
  all_goals go_ret
  all_goals refine ⟨ret_int ?_, 0, rfl⟩
  · rfl
theorem alu1_42 (a b sa sb : Int) (w : World) (ha : 0 ≤ a) (ha' : a < 4294967296) (hb : 0 ≤ b) (hb' : b < 4294967296) (HSA : Hid (sa = wrap32 a)) (HSB : Hid (sb = wrap32 b))
    (hs1 : -2147483648 ≤ sa) (hs2 : sa ≤ 2147483647) (hs3 : -2147483648 ≤ sb) (hs4 : sb ≤ 2147483647) (HUA : Hid (U32 a)) (HUB : Hid (U32 b)) :
    Calls Try.prog 55 #[.int .i64 42, .int .u32 a, .int .u32 b] w fun e w' => e = .returned (.int .u32 (alu 42 a b)) ∧ ∃ n, w' = w.drewN n := by
  by_cases h0 : b = 0
  · subst h0
    go_enter Try.func55, Try.ntmps55
    go_wp2_with (first | (go_at_call 66; ((with_reducible refine (signed1s a sa _ HSA HUA).mono ?_); rintro e w' ⟨rfl, rfl⟩)) | (go_at_call 66; ((with_reducible refine (signed1s 0 sb _ HSB HUB).mono ?_); rintro e w' ⟨rfl, rfl⟩)) | (go_at_call 50; refine (of1 _ _ ?_).mono ?_; (first | omega | (unfold wrap64; omega)); rintro e w' ⟨rfl, rfl⟩))
    all_goals go_ret
    all_goals refine ⟨ret_int ?_, 0, rfl⟩
    · first | rfl | exact (alu_div0 a).symm | exact (alu_rem0 a HUA.out).symm
  · have hz : (b == 0) = false := by simpa using h0
    have hsz : sb ≠ 0 := by rw [HSB.out]; unfold wrap32; omega
    have hz2 : (sb == 0) = false := by simpa using hsz
    have T := lI (Int.mul_tdiv_add_tmod sa sb)
    obtain ⟨tb1, tb2⟩ := tdiv_small' sa sb hs1 hs2 hsz
    go_enter Try.func55, Try.ntmps55
    go_wp2_with (first | (go_at_call 66; ((with_reducible refine (signed1s a sa _ HSA HUA).mono ?_); rintro e w' ⟨rfl, rfl⟩)) | (go_at_call 66; ((with_reducible refine (signed1s b sb _ HSB HUB).mono ?_); rintro e w' ⟨rfl, rfl⟩)) | (go_at_call 50; refine (of1 _ _ ?_).mono ?_; (first | omega | (unfold wrap64; omega)); rintro e w' ⟨rfl, rfl⟩))
    all_goals go_ret
    all_goals refine ⟨ret_int ?_, 0, rfl⟩
    · rw [alu_div, ← HSA.out, ← HSB.out, divq, if_neg hsz]
      have e1 : wrap64 (sa.tdiv sb) = sa.tdiv sb := by unfold wrap64; omega
      split
      · rename_i h1; rw [h1]; unfold wrap32; simp; try omega
      · first | rfl | (rw [e1]; done) | omega
theorem alu1_44 (a b sa sb : Int) (w : World) (ha : 0 ≤ a) (ha' : a < 4294967296) (hb : 0 ≤ b) (hb' : b < 4294967296) (HSA : Hid (sa = wrap32 a)) (HSB : Hid (sb = wrap32 b))
    (hs1 : -2147483648 ≤ sa) (hs2 : sa ≤ 2147483647) (hs3 : -2147483648 ≤ sb) (hs4 : sb ≤ 2147483647) (HUA : Hid (U32 a)) (HUB : Hid (U32 b)) :
    Calls Try.prog 55 #[.int .i64 44, .int .u32 a, .int .u32 b] w fun e w' => e = .returned (.int .u32 (alu 44 a b)) ∧ ∃ n, w' = w.drewN n := by
  by_cases h0 : b = 0
  · subst h0
    go_enter Try.func55, Try.ntmps55
    go_wp2_with (first | (go_at_call 66; ((with_reducible refine (signed1s a sa _ HSA HUA).mono ?_); rintro e w' ⟨rfl, rfl⟩)) | (go_at_call 66; ((with_reducible refine (signed1s 0 sb _ HSB HUB).mono ?_); rintro e w' ⟨rfl, rfl⟩)) | (go_at_call 50; refine (of1 _ _ ?_).mono ?_; (first | omega | (unfold wrap64; omega)); rintro e w' ⟨rfl, rfl⟩))
    all_goals go_ret
    all_goals refine ⟨ret_int ?_, 0, rfl⟩
    · first | rfl | exact (alu_div0 a).symm | exact (alu_rem0 a HUA.out).symm
  · have hz : (b == 0) = false := by simpa using h0
    have hsz : sb ≠ 0 := by rw [HSB.out]; unfold wrap32; omega
    have hz2 : (sb == 0) = false := by simpa using hsz
    have T := lI (Int.mul_tdiv_add_tmod sa sb)
    obtain ⟨tb1, tb2⟩ := tdiv_small' sa sb hs1 hs2 hsz
    go_enter Try.func55, Try.ntmps55
    go_wp2_with (first | (go_at_call 66; ((with_reducible refine (signed1s a sa _ HSA HUA).mono ?_); rintro e w' ⟨rfl, rfl⟩)) | (go_at_call 66; ((with_reducible refine (signed1s b sb _ HSB HUB).mono ?_); rintro e w' ⟨rfl, rfl⟩)) | (go_at_call 50; refine (of1 _ _ ?_).mono ?_; (first | omega | (unfold wrap64; omega)); rintro e w' ⟨rfl, rfl⟩))
    all_goals go_ret
    all_goals refine ⟨ret_int ?_, 0, rfl⟩
    · have h4 := T.out
      rw [alu_rem, ← HSA.out, ← HSB.out, divr, if_neg hsz]
      have e2 : sa.tdiv sb * sb + sa.tmod sb = sa := by rw [Int.mul_comm]; exact h4
      have e3 : sb = -1 → sa.tmod sb = 0 := fun h => by rw [h, Int.tmod_neg, Int.tmod_one]
      clear h4 T
      generalize sa.tdiv sb * sb = Q at *
      generalize sa.tmod sb = R at *
      unfold wrap64
      split
      · rename_i h1; have := e3 h1; omega
      · omega
theorem alu1_43 (a b sa sb : Int) (w : World) (ha : 0 ≤ a) (ha' : a < 4294967296) (hb : 0 ≤ b) (hb' : b < 4294967296) (HSA : Hid (sa = wrap32 a)) (HSB : Hid (sb = wrap32 b))
    (hs1 : -2147483648 ≤ sa) (hs2 : sa ≤ 2147483647) (hs3 : -2147483648 ≤ sb) (hs4 : sb ≤ 2147483647) (HUA : Hid (U32 a)) (HUB : Hid (U32 b)) :
    Calls Try.prog 55 #[.int .i64 43, .int .u32 a, .int .u32 b] w fun e w' => e = .returned (.int .u32 (alu 43 a b)) ∧ ∃ n, w' = w.drewN n := by
  by_cases h0 : b = 0
  · subst h0
    go_enter Try.func55, Try.ntmps55
    go_wp2_with (first | (go_at_call 66; ((with_reducible refine (signed1s a sa _ HSA HUA).mono ?_); rintro e w' ⟨rfl, rfl⟩)) | (go_at_call 66; ((with_reducible refine (signed1s 0 sb _ HSB HUB).mono ?_); rintro e w' ⟨rfl, rfl⟩)) | (go_at_call 50; refine (of1 _ _ ?_).mono ?_; (first | omega | (unfold wrap64; omega)); rintro e w' ⟨rfl, rfl⟩))
    all_goals go_ret
    all_goals refine ⟨ret_int ?_, 0, rfl⟩
    · first | rfl | exact (alu_div0 a).symm | exact (alu_rem0 a HUA.out).symm
  · have hz : (b == 0) = false := by simpa using h0
    have hsz : sb ≠ 0 := by rw [HSB.out]; unfold wrap32; omega
    have hz2 : (sb == 0) = false := by simpa using hsz
    have hz1 : (b == -1) = false := by simpa using (by omega : b ≠ -1)
    obtain ⟨d1, d2⟩ : 0 ≤ a / b ∧ a / b ≤ a := ⟨Int.ediv_nonneg ha hb, Int.ediv_le_self _ ha⟩
    have e1 : a.tdiv b = a / b := Int.tdiv_eq_ediv_of_nonneg ha
    obtain ⟨d3, d4⟩ : 0 ≤ a % b ∧ a % b < b := ⟨Int.emod_nonneg a h0, Int.emod_lt_of_pos a om⟩
    have e2 : a.tmod b = a % b := Int.tmod_eq_emod_of_nonneg ha
    go_enter Try.func55, Try.ntmps55
    go_wp2_with (first | (go_at_call 66; ((with_reducible refine (signed1s a sa _ HSA HUA).mono ?_); rintro e w' ⟨rfl, rfl⟩)) | (go_at_call 66; ((with_reducible refine (signed1s b sb _ HSB HUB).mono ?_); rintro e w' ⟨rfl, rfl⟩)) | (go_at_call 50; refine (of1 _ _ ?_).mono ?_; (first | omega | (unfold wrap64; omega)); rintro e w' ⟨rfl, rfl⟩))
    all_goals go_ret
    all_goals refine ⟨ret_int ?_, 0, rfl⟩
    · rw [alu_divu, if_neg h0]; omega
theorem alu1_45 (a b sa sb : Int) (w : World) (ha : 0 ≤ a) (ha' : a < 4294967296) (hb : 0 ≤ b) (hb' : b < 4294967296) (HSA : Hid (sa = wrap32 a)) (HSB : Hid (sb = wrap32 b))
    (hs1 : -2147483648 ≤ sa) (hs2 : sa ≤ 2147483647) (hs3 : -2147483648 ≤ sb) (hs4 : sb ≤ 2147483647) (HUA : Hid (U32 a)) (HUB : Hid (U32 b)) :
    Calls Try.prog 55 #[.int .i64 45, .int .u32 a, .int .u32 b] w fun e w' => e = .returned (.int .u32 (alu 45 a b)) ∧ ∃ n, w' = w.drewN n := by
  by_cases h0 : b = 0
  · subst h0
    go_enter Try.func55, Try.ntmps55
    go_wp2_with (first | (go_at_call 66; ((with_reducible refine (signed1s a sa _ HSA HUA).mono ?_); rintro e w' ⟨rfl, rfl⟩)) | (go_at_call 66; ((with_reducible refine (signed1s 0 sb _ HSB HUB).mono ?_); rintro e w' ⟨rfl, rfl⟩)) | (go_at_call 50; refine (of1 _ _ ?_).mono ?_; (first | omega | (unfold wrap64; omega)); rintro e w' ⟨rfl, rfl⟩))
    all_goals go_ret
    all_goals refine ⟨ret_int ?_, 0, rfl⟩
    · first | rfl | exact (alu_div0 a).symm | exact (alu_rem0 a HUA.out).symm
  · have hz : (b == 0) = false := by simpa using h0
    have hsz : sb ≠ 0 := by rw [HSB.out]; unfold wrap32; omega
    have hz2 : (sb == 0) = false := by simpa using hsz
    have hz1 : (b == -1) = false := by simpa using (by omega : b ≠ -1)
    obtain ⟨d1, d2⟩ : 0 ≤ a / b ∧ a / b ≤ a := ⟨Int.ediv_nonneg ha hb, Int.ediv_le_self _ ha⟩
    have e1 : a.tdiv b = a / b := Int.tdiv_eq_ediv_of_nonneg ha
    obtain ⟨d3, d4⟩ : 0 ≤ a % b ∧ a % b < b := ⟨Int.emod_nonneg a h0, Int.emod_lt_of_pos a om⟩
    have e2 : a.tmod b = a % b := Int.tmod_eq_emod_of_nonneg ha
    go_enter Try.func55, Try.ntmps55
    go_wp2_with (first | (go_at_call 66; ((with_reducible refine (signed1s a sa _ HSA HUA).mono ?_); rintro e w' ⟨rfl, rfl⟩)) | (go_at_call 66; ((with_reducible refine (signed1s b sb _ HSB HUB).mono ?_); rintro e w' ⟨rfl, rfl⟩)) | (go_at_call 50; refine (of1 _ _ ?_).mono ?_; (first | omega | (unfold wrap64; omega)); rintro e w' ⟨rfl, rfl⟩))
    all_goals go_ret
    all_goals refine ⟨ret_int ?_, 0, rfl⟩
    · rw [alu_remu, if_neg h0]; omega
theorem power1h (n P : Int) (w : World) (h : Hid (0 ≤ n ∧ n ≤ 32 ∧ P = ((2 ^ n.toNat : Nat) : Int))) :
    Calls Try.prog 79 #[.int .i64 n] w fun e w' => e = .returned (.int .i64 P) ∧ w = w' := by
  rw [h.out.2.2]; exact power1 n w ⟨h.out.1, h.out.2.1⟩
theorem of1any (n : Int) (w : World) : Calls Try.prog 50 #[.int .i64 (wrap64 n)] w fun e w' => e = .returned (.int .u32 (n % 4294967296)) ∧ w = w' := by
  have h := of1 (wrap64 n) w (by unfold wrap64; omega)
  have e : wrap64 n % 4294967296 = n % 4294967296 := by unfold wrap64; omega
  rw [e] at h; exact h
theorem sll_plain (a p1 p2 : Int) (h : p1 * p2 = 4294967296) (h2 : 0 < p2) : a % p1 * p2 % 4294967296 = a * p2 % 4294967296 := by
  have e : a % p1 * p2 = a * p2 % 4294967296 := by
    rw [← h, Int.mul_comm (a % p1), ← Int.mul_emod_mul_of_pos _ _ h2, Int.mul_comm p2 a, Int.mul_comm p2 p1]
  rw [e, Int.emod_emod]
theorem alu1_30 (a b sa sb : Int) (w : World) (ha : 0 ≤ a) (ha' : a < 4294967296) (hb : 0 ≤ b) (hb' : b < 4294967296) (HSA : Hid (sa = wrap32 a)) (HSB : Hid (sb = wrap32 b))
    (hs1 : -2147483648 ≤ sa) (hs2 : sa ≤ 2147483647) (hs3 : -2147483648 ≤ sb) (hs4 : sb ≤ 2147483647) (HUA : Hid (U32 a)) (HUB : Hid (U32 b)) :
    Calls Try.prog 55 #[.int .i64 30, .int .u32 a, .int .u32 b] w fun e w' => e = .returned (.int .u32 (alu 30 a b)) ∧ ∃ n, w' = w.drewN n := by
  obtain ⟨s, hs⟩ : ∃ s, s = b % 32 := ⟨_, rfl⟩
  obtain ⟨p1, hp1⟩ : ∃ p, p = ((2 ^ (32 - s).toNat : Nat) : Int) := ⟨_, rfl⟩
  obtain ⟨p2, hp2⟩ : ∃ p, p = ((2 ^ s.toNat : Nat) : Int) := ⟨_, rfl⟩
  have s1 : 0 ≤ s := om
  have s2 : s < 32 := om
  have hprod : p1 * p2 = 4294967296 := by
    rw [hp1, hp2, ← Int.natCast_mul, ← Nat.pow_add, show (32 - s).toNat + s.toNat = 32 from by omega]; rfl
  have q1 : 0 < p1 := by rw [hp1]; exact_mod_cast Nat.pow_pos zN
  have q2 : 0 < p2 := by rw [hp2]; exact_mod_cast Nat.pow_pos zN
  have ee : b % 32 = s := hs.symm
  have HP1 : Hid (0 ≤ 32 - s ∧ 32 - s ≤ 32 ∧ p1 = ((2 ^ (32 - s).toNat : Nat) : Int)) := lI ⟨om, om, hp1⟩
  have HP2 : Hid (0 ≤ s ∧ s ≤ 32 ∧ p2 = ((2 ^ s.toNat : Nat) : Int)) := lI ⟨om, om, hp2⟩
  have HF : Hid (a % p1 * p2 % 4294967296 = alu 30 a b) := lI (by
    rw [sll_plain a p1 p2 hprod q2]
    show _ = a * 2 ^ (b % 32).toNat % 4294967296
    rw [ee, hp2, Int.natCast_pow]; rfl)
  have hz1 : ¬ p1 = 0 := om
  have hz2 : (p1 == -1) = false := by simpa using (by omega : p1 ≠ -1)
  have ew : IntKind.i64.wrap (32 - s) = 32 - s := IntWalk.i64_in _ om
  have em : a.tmod p1 = a % p1 := Int.tmod_eq_emod_of_nonneg ha
  clear hs hp1 hp2 hprod
  go_enter Try.func55, Try.ntmps55
  go_wp2_with (first | (go_at_call 66; ((with_reducible refine (signed1s a sa _ HSA HUA).mono ?_); rintro e w' ⟨rfl, rfl⟩)) | (go_at_call 66; ((with_reducible refine (signed1s b sb _ HSB HUB).mono ?_); rintro e w' ⟨rfl, rfl⟩)))
  go_quiet (first | (go_at_call 79; first | (with_reducible exact quiet_left (power1h _ _ _ HP1)) | (with_reducible exact quiet_left (power1h _ _ _ HP2))) | (go_at_call 50; exact quiet_left (of1any _ _)))
  go_wp2
  go_ret
  exact ⟨ret_int (by rw [← HF.out]), nq, rfl⟩
theorem alu1_34 (a b sa sb : Int) (w : World) (ha : 0 ≤ a) (ha' : a < 4294967296) (hb : 0 ≤ b) (hb' : b < 4294967296) (HSA : Hid (sa = wrap32 a)) (HSB : Hid (sb = wrap32 b))
    (hs1 : -2147483648 ≤ sa) (hs2 : sa ≤ 2147483647) (hs3 : -2147483648 ≤ sb) (hs4 : sb ≤ 2147483647) (HUA : Hid (U32 a)) (HUB : Hid (U32 b)) :
    Calls Try.prog 55 #[.int .i64 34, .int .u32 a, .int .u32 b] w fun e w' => e = .returned (.int .u32 (alu 34 a b)) ∧ ∃ n, w' = w.drewN n := by
  obtain ⟨s, hs⟩ : ∃ s, s = b % 32 := ⟨_, rfl⟩
  obtain ⟨p2, hp2⟩ : ∃ p, p = ((2 ^ s.toNat : Nat) : Int) := ⟨_, rfl⟩
  have s1 : 0 ≤ s := om
  have s2 : s < 32 := om
  have q2 : 0 < p2 := by rw [hp2]; exact_mod_cast Nat.pow_pos zN
  have ee : b % 32 = s := hs.symm
  have HP2 : Hid (0 ≤ s ∧ s ≤ 32 ∧ p2 = ((2 ^ s.toNat : Nat) : Int)) := lI ⟨om, om, hp2⟩
  obtain ⟨d1, d2⟩ : 0 ≤ a / p2 ∧ a / p2 ≤ a := ⟨Int.ediv_nonneg ha om, Int.ediv_le_self _ ha⟩
  have HF : Hid (a / p2 = alu 34 a b) := lI (by
    show _ = a / 2 ^ (b % 32).toNat
    rw [ee, hp2, Int.natCast_pow]; rfl)
  have hz1 : (p2 == 0) = false := by simpa using (by omega : p2 ≠ 0)
  have hz2 : (p2 == -1) = false := by simpa using (by omega : p2 ≠ -1)
  have em : a.tdiv p2 = a / p2 := Int.tdiv_eq_ediv_of_nonneg ha
  clear hs hp2
  go_enter Try.func55, Try.ntmps55
  go_wp2_with (first | (go_at_call 66; ((with_reducible refine (signed1s a sa _ HSA HUA).mono ?_); rintro e w' ⟨rfl, rfl⟩)) | (go_at_call 66; ((with_reducible refine (signed1s b sb _ HSB HUB).mono ?_); rintro e w' ⟨rfl, rfl⟩)) | (go_at_call 79; refine (power1h _ _ _ HP2).mono ?_; rintro e w' ⟨rfl, rfl⟩) | (go_at_call 50; refine (of1 _ _ ?_).mono ?_; (first | omega | (unfold wrap64; omega)); rintro e w' ⟨rfl, rfl⟩))
  go_ret
  exact ⟨ret_int (by rw [← HF.out]; omega), 0, rfl⟩
theorem alu1_35 (a b sa sb : Int) (w : World) (ha : 0 ≤ a) (ha' : a < 4294967296) (hb : 0 ≤ b) (hb' : b < 4294967296) (HSA : Hid (sa = wrap32 a)) (HSB : Hid (sb = wrap32 b))
    (hs1 : -2147483648 ≤ sa) (hs2 : sa ≤ 2147483647) (hs3 : -2147483648 ≤ sb) (hs4 : sb ≤ 2147483647) (HUA : Hid (U32 a)) (HUB : Hid (U32 b)) :
    Calls Try.prog 55 #[.int .i64 35, .int .u32 a, .int .u32 b] w fun e w' => e = .returned (.int .u32 (alu 35 a b)) ∧ ∃ n, w' = w.drewN n := by
  obtain ⟨s, hs⟩ : ∃ s, s = b % 32 := ⟨_, rfl⟩
  obtain ⟨p2, hp2⟩ : ∃ p, p = ((2 ^ s.toNat : Nat) : Int) := ⟨_, rfl⟩
  have s1 : 0 ≤ s := om
  have s2 : s < 32 := om
  have q2 : 0 < p2 := by rw [hp2]; exact_mod_cast Nat.pow_pos zN
  have q3 : p2 ≤ 4294967296 := by rw [hp2]; exact Int.ofNat_le.2 (pow_le32 om)
  have ee : b % 32 = s := hs.symm
  have HP2 : Hid (0 ≤ s ∧ s ≤ 32 ∧ p2 = ((2 ^ s.toNat : Nat) : Int)) := lI ⟨om, om, hp2⟩
  have HF : Hid (sa / p2 % 4294967296 = alu 35 a b) := lI (by
    show _ = wrap32 a / 2 ^ (b % 32).toNat % 4294967296
    rw [ee, hp2, Int.natCast_pow, HSA.out]; rfl)
  have hd : (sa / p2).natAbs ≤ sa.natAbs := Int.natAbs_ediv_le_natAbs _ _
  have hd1 : -9223372036854775808 ≤ sa / p2 := om
  have hd2 : sa / p2 ≤ 9223372036854775807 := om
  clear hs hp2 hd
  go_enter Try.func55, Try.ntmps55
  go_wp2_with (first | (go_at_call 66; ((with_reducible refine (signed1s a sa _ HSA HUA).mono ?_); rintro e w' ⟨rfl, rfl⟩)) | (go_at_call 66; ((with_reducible refine (signed1s b sb _ HSB HUB).mono ?_); rintro e w' ⟨rfl, rfl⟩)) | (go_at_call 79; refine (power1h _ _ _ HP2).mono ?_; rintro e w' ⟨rfl, rfl⟩) | (go_at_call 80; refine (floor1 _ _ _ ?_ ?_).mono ?_; omega; omega; rintro e w' ⟨rfl, rfl⟩) | (go_at_call 50; refine (of1 _ _ ?_).mono ?_; (first | omega | (unfold wrap64; omega)); rintro e w' ⟨rfl, rfl⟩))
  go_ret
  exact ⟨ret_int (by rw [← HF.out]), 0, rfl⟩
theorem alu1_no (op a b sa sb : Int) (w : World) (ha : 0 ≤ a) (ha' : a < 4294967296) (hb : 0 ≤ b) (hb' : b < 4294967296) (HSA : Hid (sa = wrap32 a)) (HSB : Hid (sb = wrap32 b))
    (hs1 : -2147483648 ≤ sa) (hs2 : sa ≤ 2147483647) (hs3 : -2147483648 ≤ sb) (hs4 : sb ≤ 2147483647) (HUA : Hid (U32 a)) (HUB : Hid (U32 b)) (hop : op < 28 ∨ 45 < op) :
    Calls Try.prog 55 #[.int .i64 op, .int .u32 a, .int .u32 b] w fun e w' => e = .returned (.int .u32 (alu op a b)) ∧ ∃ n, w' = w.drewN n := by
  have HF : Hid (alu op a b = 0) := lI (by
    unfold alu quot
    simp only [beq_iff_eq]
    repeat (rw [if_neg om]))
  have f : ∀ c : Int, 28 ≤ c → c ≤ 45 → (op == c) = false := fun c h1 h2 => by simpa using (by omega : op ≠ c)
  have f1 := f 28 om om
  have f2 := f 29 om om
  have f3 := f 30 om om
  have f4 := f 31 om om
  have f5 := f 32 om om
  have f6 := f 33 om om
  have f7 := f 34 om om
  have f8 := f 35 om om
  have f9 := f 36 om om
  have g0 := f 37 om om
  have g1 := f 38 om om
  have g2 := f 39 om om
  have g3 := f 40 om om
  have g4 := f 41 om om
  have g5 := f 42 om om
  have g6 := f 43 om om
  have g7 := f 44 om om
  have g8 := f 45 om om
  clear f hop
  go_enter Try.func55, Try.ntmps55
  go_wp2_with (first | (go_at_call 66; ((with_reducible refine (signed1s a sa _ HSA HUA).mono ?_); rintro e w' ⟨rfl, rfl⟩)) | (go_at_call 66; ((with_reducible refine (signed1s b sb _ HSB HUB).mono ?_); rintro e w' ⟨rfl, rfl⟩)))
  go_ret
  exact ⟨ret_int HF.out.symm, 0, rfl⟩
theorem alu1_any (op a b : Int) (w : World) (ha : 0 ≤ a) (ha' : a < 4294967296) (hb : 0 ≤ b) (hb' : b < 4294967296) :
    Calls Try.prog 55 #[.int .i64 op, .int .u32 a, .int .u32 b] w fun e w' => e = .returned (.int .u32 (alu op a b)) ∧ ∃ n, w' = w.drewN n := by
  have h1 := wrap32_small a
  have h2 := wrap32_small b
  have ua := lI (show U32 a from ⟨ha, ha'⟩)
  have ub := lI (show U32 b from ⟨hb, hb'⟩)
  by_cases hop : op < 28 ∨ 45 < op
  · exact alu1_no op a b _ _ w ha ha' hb hb' (lI rfl) (lI rfl) h1.1 h1.2 h2.1 h2.2 ua ub hop
  have hc : op = 28 ∨ op = 29 ∨ op = 30 ∨ op = 31 ∨ op = 32 ∨ op = 33 ∨ op = 34 ∨ op = 35 ∨ op = 36 ∨ op = 37 ∨ op = 38 ∨ op = 39 ∨ op = 40 ∨ op = 41 ∨ op = 42 ∨ op = 43 ∨ op = 44 ∨ op = 45 := om
  clear hop
  rcases hc with rfl | rfl | rfl | rfl | rfl | rfl | rfl | rfl | rfl | rfl | rfl | rfl | rfl | rfl | rfl | rfl | rfl | rfl
  · exact alu1_28 a b _ _ w ha ha' hb hb' (lI rfl) (lI rfl) h1.1 h1.2 h2.1 h2.2 ua ub
  · exact alu1_29 a b _ _ w ha ha' hb hb' (lI rfl) (lI rfl) h1.1 h1.2 h2.1 h2.2 ua ub
  · exact alu1_30 a b _ _ w ha ha' hb hb' (lI rfl) (lI rfl) h1.1 h1.2 h2.1 h2.2 ua ub
  · exact alu1_31 a b _ _ w ha ha' hb hb' (lI rfl) (lI rfl) h1.1 h1.2 h2.1 h2.2 ua ub
  · exact alu1_32 a b _ _ w ha ha' hb hb' (lI rfl) (lI rfl) h1.1 h1.2 h2.1 h2.2 ua ub
  · exact alu1_33 a b _ _ w ha ha' hb hb' (lI rfl) (lI rfl) h1.1 h1.2 h2.1 h2.2 ua ub
  · exact alu1_34 a b _ _ w ha ha' hb hb' (lI rfl) (lI rfl) h1.1 h1.2 h2.1 h2.2 ua ub
  · exact alu1_35 a b _ _ w ha ha' hb hb' (lI rfl) (lI rfl) h1.1 h1.2 h2.1 h2.2 ua ub
  · exact alu1_36 a b _ _ w ha ha' hb hb' (lI rfl) (lI rfl) h1.1 h1.2 h2.1 h2.2 ua ub
  · exact alu1_37 a b _ _ w ha ha' hb hb' (lI rfl) (lI rfl) h1.1 h1.2 h2.1 h2.2 ua ub
  · exact alu1_38 a b _ _ w ha ha' hb hb' (lI rfl) (lI rfl) h1.1 h1.2 h2.1 h2.2 ua ub
  · exact alu1_39 a b _ _ w ha ha' hb hb' (lI rfl) (lI rfl) h1.1 h1.2 h2.1 h2.2 ua ub
  · exact alu1_40 a b _ _ w ha ha' hb hb' (lI rfl) (lI rfl) h1.1 h1.2 h2.1 h2.2 ua ub
  · exact alu1_41 a b _ _ w ha ha' hb hb' (lI rfl) (lI rfl) h1.1 h1.2 h2.1 h2.2 ua ub
  · exact alu1_42 a b _ _ w ha ha' hb hb' (lI rfl) (lI rfl) h1.1 h1.2 h2.1 h2.2 ua ub
  · exact alu1_43 a b _ _ w ha ha' hb hb' (lI rfl) (lI rfl) h1.1 h1.2 h2.1 h2.2 ua ub
  · exact alu1_44 a b _ _ w ha ha' hb hb' (lI rfl) (lI rfl) h1.1 h1.2 h2.1 h2.2 ua ub
  · exact alu1_45 a b _ _ w ha ha' hb hb' (lI rfl) (lI rfl) h1.1 h1.2 h2.1 h2.2 ua ub
end Go.Proofs.Ytlfnddmncbkjaac.W
