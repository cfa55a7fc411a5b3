/- ferrybridgeref1.Alu, operation by operation. -/
import Derived.Test.YtlfnddmncbkjaabZWRef1
namespace Go.Proofs.Ytlfnddmncbkjaab.W
set_option linter.unusedVariables false
set_option linter.unusedSimpArgs false
open Go.RowKit Fb
theorem power1n (n k P : Nat) (h : n = k) (hk : k ≤ 32) (hP : P = 2 ^ k) (w : World) : Calls Try.prog 62 #[.int .i64 (n : Int)] w fun e w' => e = .returned (.int .i64 P) ∧ w = w' := by
  subst h; subst hP
  have := power1 (n : Int) w (by omega)
  rw [Int.toNat_natCast] at this
  exact this
theorem signed1s (a sa : Int) (w : World) (h : Hid (sa = wrap32 a)) (hu : Hid (U32 a)) : Calls Try.prog 59 #[.int .u32 a] w fun e w' => e = .returned (.int .i64 sa) ∧ w = w' := by
  rw [h.out]; exact signed1 a w hu.out
theorem bits1i (o : BOp) (a b : Int) (w : World) (ha : U32 a) (hb : U32 b) :
    Calls Try.prog 61 #[.int .i64 o.code, .int .u32 a, .int .u32 b] w fun e w' => e = .returned (.int .u32 (bits o.op .u32 a b)) ∧ w = w' := by
  obtain ⟨x, rfl⟩ := Int.eq_ofNat_of_zero_le ha.1
  obtain ⟨y, rfl⟩ := Int.eq_ofNat_of_zero_le hb.1
  exact bits1 o x y w (by have := ha.2; omega) (by have := hb.2; omega)
theorem tdiv_small' (a b : Int) (ha : -2147483648 ≤ a) (ha' : a ≤ 2147483647) (h0 : b ≠ 0) : -2147483648 ≤ a.tdiv b ∧ a.tdiv b ≤ 2147483648 := by
  have h : (a.tdiv b).natAbs = a.natAbs / b.natAbs := Int.natAbs_tdiv a b
  have h2 : a.natAbs / b.natAbs ≤ a.natAbs := Nat.div_le_self _ _
  by_cases hb : b.natAbs = 1
  · rcases (by omega : b = 1 ∨ b = -1) with rfl | rfl
    · simp; omega
    · simp; omega
  · have h3 : a.natAbs / b.natAbs ≤ a.natAbs / 2 := Nat.div_le_div_left (by omega) (by decide)
    omega
theorem alu1_28 (a b sa sb : Int) (w : World) (ha : 0 ≤ a) (ha' : a < 4294967296) (hb : 0 ≤ b) (hb' : b < 4294967296) (HSA : Hid (sa = wrap32 a)) (HSB : Hid (sb = wrap32 b))
    (hs1 : -2147483648 ≤ sa) (hs2 : sa ≤ 2147483647) (hs3 : -2147483648 ≤ sb) (hs4 : sb ≤ 2147483647) (HUA : Hid (U32 a)) (HUB : Hid (U32 b)) :
    Calls Try.prog 20 #[.int .i64 28, .int .u32 a, .int .u32 b] w fun e w' => e = .returned (.int .u32 (alu 28 a b)) ∧ ∃ n, w' = w.drewN n := by
  go_enter Try.func20, Try.ntmps20
  go_wp2_with (first | (go_at_call 59; ((with_reducible refine (signed1s a sa _ HSA HUA).mono ?_); rintro e w' ⟨rfl, rfl⟩)) | (go_at_call 59; ((with_reducible refine (signed1s b sb _ HSB HUB).mono ?_); rintro e w' ⟨rfl, rfl⟩)) | (go_at_call 60; refine (of1 _ _ ?_).mono ?_; (first | omega | (unfold wrap64; omega)); rintro e w' ⟨rfl, rfl⟩))
  all_goals go_ret
  all_goals refine ⟨ret_int ?_, 0, rfl⟩
  · rfl

theorem alu1_29 (a b sa sb : Int) (w : World) (ha : 0 ≤ a) (ha' : a < 4294967296) (hb : 0 ≤ b) (hb' : b < 4294967296) (HSA : Hid (sa = wrap32 a)) (HSB : Hid (sb = wrap32 b))
    (hs1 : -2147483648 ≤ sa) (hs2 : sa ≤ 2147483647) (hs3 : -2147483648 ≤ sb) (hs4 : sb ≤ 2147483647) (HUA : Hid (U32 a)) (HUB : Hid (U32 b)) :
    Calls Try.prog 20 #[.int .i64 29, .int .u32 a, .int .u32 b] w fun e w' => e = .returned (.int .u32 (alu 29 a b)) ∧ ∃ n, w' = w.drewN n := by
  go_enter Try.func20, Try.ntmps20
  go_wp2_with (first | (go_at_call 59; ((with_reducible refine (signed1s a sa _ HSA HUA).mono ?_); rintro e w' ⟨rfl, rfl⟩)) | (go_at_call 59; ((with_reducible refine (signed1s b sb _ HSB HUB).mono ?_); rintro e w' ⟨rfl, rfl⟩)) | (go_at_call 60; refine (of1 _ _ ?_).mono ?_; (first | omega | (unfold wrap64; omega)); rintro e w' ⟨rfl, rfl⟩))
  all_goals go_ret
  all_goals refine ⟨ret_int ?_, 0, rfl⟩
  · rfl

theorem alu1_37 (a b sa sb : Int) (w : World) (ha : 0 ≤ a) (ha' : a < 4294967296) (hb : 0 ≤ b) (hb' : b < 4294967296) (HSA : Hid (sa = wrap32 a)) (HSB : Hid (sb = wrap32 b))
    (hs1 : -2147483648 ≤ sa) (hs2 : sa ≤ 2147483647) (hs3 : -2147483648 ≤ sb) (hs4 : sb ≤ 2147483647) (HUA : Hid (U32 a)) (HUB : Hid (U32 b)) :
    Calls Try.prog 20 #[.int .i64 37, .int .u32 a, .int .u32 b] w fun e w' => e = .returned (.int .u32 (alu 37 a b)) ∧ ∃ n, w' = w.drewN n := by
  have HB := Lib.hid (fun w => bits1i .and a b w HUA.out HUB.out)
  go_enter Try.func20, Try.ntmps20
  go_wp2_with (first | (go_at_call 59; ((with_reducible refine (signed1s a sa _ HSA HUA).mono ?_); rintro e w' ⟨rfl, rfl⟩)) | (go_at_call 59; ((with_reducible refine (signed1s b sb _ HSB HUB).mono ?_); rintro e w' ⟨rfl, rfl⟩)) | (go_at_call 60; refine (of1 _ _ ?_).mono ?_; (first | omega | (unfold wrap64; omega)); rintro e w' ⟨rfl, rfl⟩) | (go_at_call 61; refine (HB.out _).mono ?_; rintro e w' ⟨rfl, rfl⟩))
  all_goals go_ret
  all_goals refine ⟨ret_int ?_, 0, rfl⟩
  · rfl

theorem alu1_36 (a b sa sb : Int) (w : World) (ha : 0 ≤ a) (ha' : a < 4294967296) (hb : 0 ≤ b) (hb' : b < 4294967296) (HSA : Hid (sa = wrap32 a)) (HSB : Hid (sb = wrap32 b))
    (hs1 : -2147483648 ≤ sa) (hs2 : sa ≤ 2147483647) (hs3 : -2147483648 ≤ sb) (hs4 : sb ≤ 2147483647) (HUA : Hid (U32 a)) (HUB : Hid (U32 b)) :
    Calls Try.prog 20 #[.int .i64 36, .int .u32 a, .int .u32 b] w fun e w' => e = .returned (.int .u32 (alu 36 a b)) ∧ ∃ n, w' = w.drewN n := by
  have HB := Lib.hid (fun w => bits1i .or a b w HUA.out HUB.out)
  go_enter Try.func20, Try.ntmps20
  go_wp2_with (first | (go_at_call 59; ((with_reducible refine (signed1s a sa _ HSA HUA).mono ?_); rintro e w' ⟨rfl, rfl⟩)) | (go_at_call 59; ((with_reducible refine (signed1s b sb _ HSB HUB).mono ?_); rintro e w' ⟨rfl, rfl⟩)) | (go_at_call 60; refine (of1 _ _ ?_).mono ?_; (first | omega | (unfold wrap64; omega)); rintro e w' ⟨rfl, rfl⟩) | (go_at_call 61; refine (HB.out _).mono ?_; rintro e w' ⟨rfl, rfl⟩))
  all_goals go_ret
  all_goals refine ⟨ret_int ?_, 0, rfl⟩
  · rfl

theorem alu1_33 (a b sa sb : Int) (w : World) (ha : 0 ≤ a) (ha' : a < 4294967296) (hb : 0 ≤ b) (hb' : b < 4294967296) (HSA : Hid (sa = wrap32 a)) (HSB : Hid (sb = wrap32 b))
    (hs1 : -2147483648 ≤ sa) (hs2 : sa ≤ 2147483647) (hs3 : -2147483648 ≤ sb) (hs4 : sb ≤ 2147483647) (HUA : Hid (U32 a)) (HUB : Hid (U32 b)) :
    Calls Try.prog 20 #[.int .i64 33, .int .u32 a, .int .u32 b] w fun e w' => e = .returned (.int .u32 (alu 33 a b)) ∧ ∃ n, w' = w.drewN n := by
  have HB := Lib.hid (fun w => bits1i .xor a b w HUA.out HUB.out)
  go_enter Try.func20, Try.ntmps20
  go_wp2_with (first | (go_at_call 59; ((with_reducible refine (signed1s a sa _ HSA HUA).mono ?_); rintro e w' ⟨rfl, rfl⟩)) | (go_at_call 59; ((with_reducible refine (signed1s b sb _ HSB HUB).mono ?_); rintro e w' ⟨rfl, rfl⟩)) | (go_at_call 60; refine (of1 _ _ ?_).mono ?_; (first | omega | (unfold wrap64; omega)); rintro e w' ⟨rfl, rfl⟩) | (go_at_call 61; refine (HB.out _).mono ?_; rintro e w' ⟨rfl, rfl⟩))
  all_goals go_ret
  all_goals refine ⟨ret_int ?_, 0, rfl⟩
  · rfl

theorem alu1_31 (a b sa sb : Int) (w : World) (ha : 0 ≤ a) (ha' : a < 4294967296) (hb : 0 ≤ b) (hb' : b < 4294967296) (HSA : Hid (sa = wrap32 a)) (HSB : Hid (sb = wrap32 b))
    (hs1 : -2147483648 ≤ sa) (hs2 : sa ≤ 2147483647) (hs3 : -2147483648 ≤ sb) (hs4 : sb ≤ 2147483647) (HUA : Hid (U32 a)) (HUB : Hid (U32 b)) :
    Calls Try.prog 20 #[.int .i64 31, .int .u32 a, .int .u32 b] w fun e w' => e = .returned (.int .u32 (alu 31 a b)) ∧ ∃ n, w' = w.drewN n := by
  go_enter Try.func20, Try.ntmps20
  go_wp2_with (first | (go_at_call 59; ((with_reducible refine (signed1s a sa _ HSA HUA).mono ?_); rintro e w' ⟨rfl, rfl⟩)) | (go_at_call 59; ((with_reducible refine (signed1s b sb _ HSB HUB).mono ?_); rintro e w' ⟨rfl, rfl⟩)) | (go_at_call 60; refine (of1 _ _ ?_).mono ?_; (first | omega | (unfold wrap64; omega)); rintro e w' ⟨rfl, rfl⟩) | (go_at_call 64; refine (truth1 _ _).mono ?_; rintro e w' ⟨rfl, rfl⟩))
  all_goals go_ret
  all_goals refine ⟨ret_int ?_, 0, rfl⟩
  all_goals (show _ = if wrap32 a < wrap32 b then (1 : Int) else 0; rw [← HSA.out, ← HSB.out]; first | (rw [if_pos (by assumption)]; done) | (rw [if_neg (by omega)]; done))

theorem alu1_32 (a b sa sb : Int) (w : World) (ha : 0 ≤ a) (ha' : a < 4294967296) (hb : 0 ≤ b) (hb' : b < 4294967296) (HSA : Hid (sa = wrap32 a)) (HSB : Hid (sb = wrap32 b))
    (hs1 : -2147483648 ≤ sa) (hs2 : sa ≤ 2147483647) (hs3 : -2147483648 ≤ sb) (hs4 : sb ≤ 2147483647) (HUA : Hid (U32 a)) (HUB : Hid (U32 b)) :
    Calls Try.prog 20 #[.int .i64 32, .int .u32 a, .int .u32 b] w fun e w' => e = .returned (.int .u32 (alu 32 a b)) ∧ ∃ n, w' = w.drewN n := by
  go_enter Try.func20, Try.ntmps20
  go_wp2_with (first | (go_at_call 59; ((with_reducible refine (signed1s a sa _ HSA HUA).mono ?_); rintro e w' ⟨rfl, rfl⟩)) | (go_at_call 59; ((with_reducible refine (signed1s b sb _ HSB HUB).mono ?_); rintro e w' ⟨rfl, rfl⟩)) | (go_at_call 60; refine (of1 _ _ ?_).mono ?_; (first | omega | (unfold wrap64; omega)); rintro e w' ⟨rfl, rfl⟩) | (go_at_call 64; refine (truth1 _ _).mono ?_; rintro e w' ⟨rfl, rfl⟩))
  all_goals go_ret
  all_goals refine ⟨ret_int ?_, 0, rfl⟩
  all_goals (show _ = if a < b then (1 : Int) else 0; first | (rw [if_pos (by assumption)]; done) | (rw [if_neg (by omega)]; done))

theorem alu1_38 (a b sa sb : Int) (w : World) (ha : 0 ≤ a) (ha' : a < 4294967296) (hb : 0 ≤ b) (hb' : b < 4294967296) (HSA : Hid (sa = wrap32 a)) (HSB : Hid (sb = wrap32 b))
    (hs1 : -2147483648 ≤ sa) (hs2 : sa ≤ 2147483647) (hs3 : -2147483648 ≤ sb) (hs4 : sb ≤ 2147483647) (HUA : Hid (U32 a)) (HUB : Hid (U32 b)) :
    Calls Try.prog 20 #[.int .i64 38, .int .u32 a, .int .u32 b] w fun e w' => e = .returned (.int .u32 (alu 38 a b)) ∧ ∃ n, w' = w.drewN n := by
  obtain ⟨p, hp⟩ : ∃ p, p = sa * sb := ⟨_, rfl⟩
  have hpb := mul_natAbs_le sa sb 2147483648 2147483648 (by omega) (by omega)
  rw [← hp] at hpb
  have p1 : -4611686018427387904 ≤ p := by omega
  have p2 : p ≤ 4611686018427387904 := by omega
  have e1 : wrap64 (sa * sb) = p := by rw [← hp]; unfold wrap64; omega
  have HP := Lib.hid hp
  clear hp hpb
  go_enter Try.func20, Try.ntmps20
  go_wp2_with (first | (go_at_call 59; ((with_reducible refine (signed1s a sa _ HSA HUA).mono ?_); rintro e w' ⟨rfl, rfl⟩)) | (go_at_call 59; ((with_reducible refine (signed1s b sb _ HSB HUB).mono ?_); rintro e w' ⟨rfl, rfl⟩)) | (go_at_call 60; refine (of1 _ _ ?_).mono ?_; (first | omega | (unfold wrap64; omega)); rintro e w' ⟨rfl, rfl⟩))
  all_goals go_ret
  all_goals refine ⟨ret_int ?_, 0, rfl⟩
  · rw [HP.out, HSA.out, HSB.out]
    obtain ⟨d, hd⟩ := wrap32_mod a
    obtain ⟨e, he⟩ := wrap32_mod b
    show _ = a * b % 4294967296
    conv => rhs; rw [Int.mul_emod, hd, he, Int.add_mul_emod_self_left, Int.add_mul_emod_self_left, ← Int.mul_emod]

theorem alu1_39 (a b sa sb : Int) (w : World) (ha : 0 ≤ a) (ha' : a < 4294967296) (hb : 0 ≤ b) (hb' : b < 4294967296) (HSA : Hid (sa = wrap32 a)) (HSB : Hid (sb = wrap32 b))
    (hs1 : -2147483648 ≤ sa) (hs2 : sa ≤ 2147483647) (hs3 : -2147483648 ≤ sb) (hs4 : sb ≤ 2147483647) (HUA : Hid (U32 a)) (HUB : Hid (U32 b)) :
    Calls Try.prog 20 #[.int .i64 39, .int .u32 a, .int .u32 b] w fun e w' => e = .returned (.int .u32 (alu 39 a b)) ∧ ∃ n, w' = w.drewN n := by
  obtain ⟨p, hp⟩ : ∃ p, p = sa * sb := ⟨_, rfl⟩
  have hpb := mul_natAbs_le sa sb 2147483648 2147483648 (by omega) (by omega)
  rw [← hp] at hpb
  have p1 : -4611686018427387904 ≤ p := by omega
  have p2 : p ≤ 4611686018427387904 := by omega
  have e1 : wrap64 (sa * sb) = p := by rw [← hp]; unfold wrap64; omega
  have HP := Lib.hid hp
  clear hp hpb
  go_enter Try.func20, Try.ntmps20
  go_wp2_with (first | (go_at_call 59; ((with_reducible refine (signed1s a sa _ HSA HUA).mono ?_); rintro e w' ⟨rfl, rfl⟩)) | (go_at_call 59; ((with_reducible refine (signed1s b sb _ HSB HUB).mono ?_); rintro e w' ⟨rfl, rfl⟩)) | (go_at_call 60; refine (of1 _ _ ?_).mono ?_; (first | omega | (unfold wrap64; omega)); rintro e w' ⟨rfl, rfl⟩) | (go_at_call 63; refine (floor1 _ _ _ ?_ ?_).mono ?_; omega; omega; rintro e w' ⟨rfl, rfl⟩))
  all_goals go_ret
  all_goals refine ⟨ret_int ?_, 0, rfl⟩
  · rw [HP.out, HSA.out, HSB.out]; rfl

theorem alu1_40 (a b sa sb : Int) (w : World) (ha : 0 ≤ a) (ha' : a < 4294967296) (hb : 0 ≤ b) (hb' : b < 4294967296) (HSA : Hid (sa = wrap32 a)) (HSB : Hid (sb = wrap32 b))
    (hs1 : -2147483648 ≤ sa) (hs2 : sa ≤ 2147483647) (hs3 : -2147483648 ≤ sb) (hs4 : sb ≤ 2147483647) (HUA : Hid (U32 a)) (HUB : Hid (U32 b)) :
    Calls Try.prog 20 #[.int .i64 40, .int .u32 a, .int .u32 b] w fun e w' => e = .returned (.int .u32 (alu 40 a b)) ∧ ∃ n, w' = w.drewN n := by
  go_enter Try.func20, Try.ntmps20
  go_wp2_with (first | (go_at_call 59; ((with_reducible refine (signed1s a sa _ HSA HUA).mono ?_); rintro e w' ⟨rfl, rfl⟩)) | (go_at_call 59; ((with_reducible refine (signed1s b sb _ HSB HUB).mono ?_); rintro e w' ⟨rfl, rfl⟩)) | (go_at_call 60; refine (of1 _ _ ?_).mono ?_; (first | omega | (unfold wrap64; omega)); rintro e w' ⟨rfl, rfl⟩) | (go_at_call 65; refine (upper1 _ _ _ ?_ ?_).mono ?_; omega; (exact HUB.out); rintro e w' ⟨rfl, rfl⟩))
  all_goals go_ret
  all_goals refine ⟨ret_int ?_, 0, rfl⟩
  · rw [HSA.out]; rfl

theorem alu1_41 (a b sa sb : Int) (w : World) (ha : 0 ≤ a) (ha' : a < 4294967296) (hb : 0 ≤ b) (hb' : b < 4294967296) (HSA : Hid (sa = wrap32 a)) (HSB : Hid (sb = wrap32 b))
    (hs1 : -2147483648 ≤ sa) (hs2 : sa ≤ 2147483647) (hs3 : -2147483648 ≤ sb) (hs4 : sb ≤ 2147483647) (HUA : Hid (U32 a)) (HUB : Hid (U32 b)) :
    Calls Try.prog 20 #[.int .i64 41, .int .u32 a, .int .u32 b] w fun e w' => e = .returned (.int .u32 (alu 41 a b)) ∧ ∃ n, w' = w.drewN n := by
  go_enter Try.func20, Try.ntmps20
  go_wp2_with (first | (go_at_call 59; ((with_reducible refine (signed1s a sa _ HSA HUA).mono ?_); rintro e w' ⟨rfl, rfl⟩)) | (go_at_call 59; ((with_reducible refine (signed1s b sb _ HSB HUB).mono ?_); rintro e w' ⟨rfl, rfl⟩)) | (go_at_call 60; refine (of1 _ _ ?_).mono ?_; (first | omega | (unfold wrap64; omega)); rintro e w' ⟨rfl, rfl⟩) | (go_at_call 65; refine (upper1 _ _ _ ?_ ?_).mono ?_; omega; (exact HUB.out); rintro e w' ⟨rfl, rfl⟩))
  all_goals go_ret
  all_goals refine ⟨ret_int ?_, 0, rfl⟩
  · rfl

theorem alu1_42 (a b sa sb : Int) (w : World) (ha : 0 ≤ a) (ha' : a < 4294967296) (hb : 0 ≤ b) (hb' : b < 4294967296) (HSA : Hid (sa = wrap32 a)) (HSB : Hid (sb = wrap32 b))
    (hs1 : -2147483648 ≤ sa) (hs2 : sa ≤ 2147483647) (hs3 : -2147483648 ≤ sb) (hs4 : sb ≤ 2147483647) (HUA : Hid (U32 a)) (HUB : Hid (U32 b)) :
    Calls Try.prog 20 #[.int .i64 42, .int .u32 a, .int .u32 b] w fun e w' => e = .returned (.int .u32 (alu 42 a b)) ∧ ∃ n, w' = w.drewN n := by
  by_cases h0 : b = 0
  · subst h0
    go_enter Try.func20, Try.ntmps20
    go_wp2_with (first | (go_at_call 59; ((with_reducible refine (signed1s a sa _ HSA HUA).mono ?_); rintro e w' ⟨rfl, rfl⟩)) | (go_at_call 59; ((with_reducible refine (signed1s 0 sb _ HSB HUB).mono ?_); rintro e w' ⟨rfl, rfl⟩)) | (go_at_call 60; refine (of1 _ _ ?_).mono ?_; (first | omega | (unfold wrap64; omega)); rintro e w' ⟨rfl, rfl⟩))
    all_goals go_ret
    all_goals refine ⟨ret_int ?_, 0, rfl⟩
    · first | rfl | exact (alu_div0 a).symm | exact (alu_rem0 a HUA.out).symm
  · have hz : (b == 0) = false := by simpa using h0
    have hsz : sb ≠ 0 := by rw [HSB.out]; unfold wrap32; omega
    have hz2 : (sb == 0) = false := by simpa using hsz
    have T := Lib.hid (Int.mul_tdiv_add_tmod sa sb)
    obtain ⟨tb1, tb2⟩ := tdiv_small' sa sb hs1 hs2 hsz
    go_enter Try.func20, Try.ntmps20
    go_wp2_with (first | (go_at_call 59; ((with_reducible refine (signed1s a sa _ HSA HUA).mono ?_); rintro e w' ⟨rfl, rfl⟩)) | (go_at_call 59; ((with_reducible refine (signed1s b sb _ HSB HUB).mono ?_); rintro e w' ⟨rfl, rfl⟩)) | (go_at_call 60; refine (of1 _ _ ?_).mono ?_; (first | omega | (unfold wrap64; omega)); rintro e w' ⟨rfl, rfl⟩))
    all_goals go_ret
    all_goals refine ⟨ret_int ?_, 0, rfl⟩
    · rw [alu_div, ← HSA.out, ← HSB.out, divq, if_neg hsz]
      have e1 : wrap64 (sa.tdiv sb) = sa.tdiv sb := by unfold wrap64; omega
      split
      · rename_i h1; rw [h1]; unfold wrap32; simp; try omega
      · first | rfl | (rw [e1]; done) | omega

theorem alu1_44 (a b sa sb : Int) (w : World) (ha : 0 ≤ a) (ha' : a < 4294967296) (hb : 0 ≤ b) (hb' : b < 4294967296) (HSA : Hid (sa = wrap32 a)) (HSB : Hid (sb = wrap32 b))
    (hs1 : -2147483648 ≤ sa) (hs2 : sa ≤ 2147483647) (hs3 : -2147483648 ≤ sb) (hs4 : sb ≤ 2147483647) (HUA : Hid (U32 a)) (HUB : Hid (U32 b)) :
    Calls Try.prog 20 #[.int .i64 44, .int .u32 a, .int .u32 b] w fun e w' => e = .returned (.int .u32 (alu 44 a b)) ∧ ∃ n, w' = w.drewN n := by
  by_cases h0 : b = 0
  · subst h0
    go_enter Try.func20, Try.ntmps20
    go_wp2_with (first | (go_at_call 59; ((with_reducible refine (signed1s a sa _ HSA HUA).mono ?_); rintro e w' ⟨rfl, rfl⟩)) | (go_at_call 59; ((with_reducible refine (signed1s 0 sb _ HSB HUB).mono ?_); rintro e w' ⟨rfl, rfl⟩)) | (go_at_call 60; refine (of1 _ _ ?_).mono ?_; (first | omega | (unfold wrap64; omega)); rintro e w' ⟨rfl, rfl⟩))
    all_goals go_ret
    all_goals refine ⟨ret_int ?_, 0, rfl⟩
    · first | rfl | exact (alu_div0 a).symm | exact (alu_rem0 a HUA.out).symm
  · have hz : (b == 0) = false := by simpa using h0
    have hsz : sb ≠ 0 := by rw [HSB.out]; unfold wrap32; omega
    have hz2 : (sb == 0) = false := by simpa using hsz
    have T := Lib.hid (Int.mul_tdiv_add_tmod sa sb)
    obtain ⟨tb1, tb2⟩ := tdiv_small' sa sb hs1 hs2 hsz
    go_enter Try.func20, Try.ntmps20
    go_wp2_with (first | (go_at_call 59; ((with_reducible refine (signed1s a sa _ HSA HUA).mono ?_); rintro e w' ⟨rfl, rfl⟩)) | (go_at_call 59; ((with_reducible refine (signed1s b sb _ HSB HUB).mono ?_); rintro e w' ⟨rfl, rfl⟩)) | (go_at_call 60; refine (of1 _ _ ?_).mono ?_; (first | omega | (unfold wrap64; omega)); rintro e w' ⟨rfl, rfl⟩))
    all_goals go_ret
    all_goals refine ⟨ret_int ?_, 0, rfl⟩
    · have h4 := T.out
      rw [alu_rem, ← HSA.out, ← HSB.out, divr, if_neg hsz]
      have e2 : sa.tdiv sb * sb + sa.tmod sb = sa := by rw [Int.mul_comm]; exact h4
      have e3 : sb = -1 → sa.tmod sb = 0 := fun h => by rw [h, Int.tmod_neg, Int.tmod_one]
      clear h4 T
      generalize sa.tdiv sb * sb = Q at *
      generalize sa.tmod sb = R at *
      unfold wrap64
      split
      · rename_i h1; have := e3 h1; omega
      · omega

theorem alu1_43 (a b sa sb : Int) (w : World) (ha : 0 ≤ a) (ha' : a < 4294967296) (hb : 0 ≤ b) (hb' : b < 4294967296) (HSA : Hid (sa = wrap32 a)) (HSB : Hid (sb = wrap32 b))
    (hs1 : -2147483648 ≤ sa) (hs2 : sa ≤ 2147483647) (hs3 : -2147483648 ≤ sb) (hs4 : sb ≤ 2147483647) (HUA : Hid (U32 a)) (HUB : Hid (U32 b)) :
    Calls Try.prog 20 #[.int .i64 43, .int .u32 a, .int .u32 b] w fun e w' => e = .returned (.int .u32 (alu 43 a b)) ∧ ∃ n, w' = w.drewN n := by
  by_cases h0 : b = 0
  · subst h0
    go_enter Try.func20, Try.ntmps20
    go_wp2_with (first | (go_at_call 59; ((with_reducible refine (signed1s a sa _ HSA HUA).mono ?_); rintro e w' ⟨rfl, rfl⟩)) | (go_at_call 59; ((with_reducible refine (signed1s 0 sb _ HSB HUB).mono ?_); rintro e w' ⟨rfl, rfl⟩)) | (go_at_call 60; refine (of1 _ _ ?_).mono ?_; (first | omega | (unfold wrap64; omega)); rintro e w' ⟨rfl, rfl⟩))
    all_goals go_ret
    all_goals refine ⟨ret_int ?_, 0, rfl⟩
    · first | rfl | exact (alu_div0 a).symm | exact (alu_rem0 a HUA.out).symm
  · have hz : (b == 0) = false := by simpa using h0
    have hsz : sb ≠ 0 := by rw [HSB.out]; unfold wrap32; omega
    have hz2 : (sb == 0) = false := by simpa using hsz
    have hz1 : (b == -1) = false := by simpa using (by omega : b ≠ -1)
    obtain ⟨d1, d2⟩ : 0 ≤ a / b ∧ a / b ≤ a := ⟨Int.ediv_nonneg ha hb, Int.ediv_le_self _ ha⟩
    have e1 : a.tdiv b = a / b := Int.tdiv_eq_ediv_of_nonneg ha
    obtain ⟨d3, d4⟩ : 0 ≤ a % b ∧ a % b < b := ⟨Int.emod_nonneg a h0, Int.emod_lt_of_pos a (by omega)⟩
    have e2 : a.tmod b = a % b := Int.tmod_eq_emod_of_nonneg ha
    go_enter Try.func20, Try.ntmps20
    go_wp2_with (first | (go_at_call 59; ((with_reducible refine (signed1s a sa _ HSA HUA).mono ?_); rintro e w' ⟨rfl, rfl⟩)) | (go_at_call 59; ((with_reducible refine (signed1s b sb _ HSB HUB).mono ?_); rintro e w' ⟨rfl, rfl⟩)) | (go_at_call 60; refine (of1 _ _ ?_).mono ?_; (first | omega | (unfold wrap64; omega)); rintro e w' ⟨rfl, rfl⟩))
    all_goals go_ret
    all_goals refine ⟨ret_int ?_, 0, rfl⟩
    · rw [alu_divu, if_neg h0]; omega

theorem alu1_45 (a b sa sb : Int) (w : World) (ha : 0 ≤ a) (ha' : a < 4294967296) (hb : 0 ≤ b) (hb' : b < 4294967296) (HSA : Hid (sa = wrap32 a)) (HSB : Hid (sb = wrap32 b))
    (hs1 : -2147483648 ≤ sa) (hs2 : sa ≤ 2147483647) (hs3 : -2147483648 ≤ sb) (hs4 : sb ≤ 2147483647) (HUA : Hid (U32 a)) (HUB : Hid (U32 b)) :
    Calls Try.prog 20 #[.int .i64 45, .int .u32 a, .int .u32 b] w fun e w' => e = .returned (.int .u32 (alu 45 a b)) ∧ ∃ n, w' = w.drewN n := by
  by_cases h0 : b = 0
  · subst h0
    go_enter Try.func20, Try.ntmps20
    go_wp2_with (first | (go_at_call 59; ((with_reducible refine (signed1s a sa _ HSA HUA).mono ?_); rintro e w' ⟨rfl, rfl⟩)) | (go_at_call 59; ((with_reducible refine (signed1s 0 sb _ HSB HUB).mono ?_); rintro e w' ⟨rfl, rfl⟩)) | (go_at_call 60; refine (of1 _ _ ?_).mono ?_; (first | omega | (unfold wrap64; omega)); rintro e w' ⟨rfl, rfl⟩))
    all_goals go_ret
    all_goals refine ⟨ret_int ?_, 0, rfl⟩
    · first | rfl | exact (alu_div0 a).symm | exact (alu_rem0 a HUA.out).symm
  · have hz : (b == 0) = false := by simpa using h0
    have hsz : sb ≠ 0 := by rw [HSB.out]; unfold wrap32; omega
    have hz2 : (sb == 0) = false := by simpa using hsz
    have hz1 : (b == -1) = false := by simpa using (by omega : b ≠ -1)
    obtain ⟨d1, d2⟩ : 0 ≤ a / b ∧ a / b ≤ a := ⟨Int.ediv_nonneg ha hb, Int.ediv_le_self _ ha⟩
    have e1 : a.tdiv b = a / b := Int.tdiv_eq_ediv_of_nonneg ha
    obtain ⟨d3, d4⟩ : 0 ≤ a % b ∧ a % b < b := ⟨Int.emod_nonneg a h0, Int.emod_lt_of_pos a (by omega)⟩
    have e2 : a.tmod b = a % b := Int.tmod_eq_emod_of_nonneg ha
    go_enter Try.func20, Try.ntmps20
    go_wp2_with (first | (go_at_call 59; ((with_reducible refine (signed1s a sa _ HSA HUA).mono ?_); rintro e w' ⟨rfl, rfl⟩)) | (go_at_call 59; ((with_reducible refine (signed1s b sb _ HSB HUB).mono ?_); rintro e w' ⟨rfl, rfl⟩)) | (go_at_call 60; refine (of1 _ _ ?_).mono ?_; (first | omega | (unfold wrap64; omega)); rintro e w' ⟨rfl, rfl⟩))
    all_goals go_ret
    all_goals refine ⟨ret_int ?_, 0, rfl⟩
    · rw [alu_remu, if_neg h0]; omega
theorem power1h (n P : Int) (w : World) (h : Hid (0 ≤ n ∧ n ≤ 32 ∧ P = ((2 ^ n.toNat : Nat) : Int))) :
    Calls Try.prog 62 #[.int .i64 n] w fun e w' => e = .returned (.int .i64 P) ∧ w = w' := by
  rw [h.out.2.2]; exact power1 n w ⟨h.out.1, h.out.2.1⟩
theorem of1any (n : Int) (w : World) : Calls Try.prog 60 #[.int .i64 (wrap64 n)] w fun e w' => e = .returned (.int .u32 (n % 4294967296)) ∧ w = w' := by
  have h := of1 (wrap64 n) w (by unfold wrap64; omega)
  have e : wrap64 n % 4294967296 = n % 4294967296 := by unfold wrap64; omega
  rw [e] at h; exact h
theorem sll_plain (a p1 p2 : Int) (h : p1 * p2 = 4294967296) (h2 : 0 < p2) : a % p1 * p2 % 4294967296 = a * p2 % 4294967296 := by
  have e : a % p1 * p2 = a * p2 % 4294967296 := by
    rw [← h, Int.mul_comm (a % p1), ← Int.mul_emod_mul_of_pos _ _ h2, Int.mul_comm p2 a, Int.mul_comm p2 p1]
  rw [e, Int.emod_emod]
set_option maxRecDepth 100000 in
theorem alu1_30 (a b sa sb : Int) (w : World) (ha : 0 ≤ a) (ha' : a < 4294967296) (hb : 0 ≤ b) (hb' : b < 4294967296) (HSA : Hid (sa = wrap32 a)) (HSB : Hid (sb = wrap32 b))
    (hs1 : -2147483648 ≤ sa) (hs2 : sa ≤ 2147483647) (hs3 : -2147483648 ≤ sb) (hs4 : sb ≤ 2147483647) (HUA : Hid (U32 a)) (HUB : Hid (U32 b)) :
    Calls Try.prog 20 #[.int .i64 30, .int .u32 a, .int .u32 b] w fun e w' => e = .returned (.int .u32 (alu 30 a b)) ∧ ∃ n, w' = w.drewN n := by
  obtain ⟨s, hs⟩ : ∃ s, s = b % 32 := ⟨_, rfl⟩
  obtain ⟨p1, hp1⟩ : ∃ p, p = ((2 ^ (32 - s).toNat : Nat) : Int) := ⟨_, rfl⟩
  obtain ⟨p2, hp2⟩ : ∃ p, p = ((2 ^ s.toNat : Nat) : Int) := ⟨_, rfl⟩
  have s1 : 0 ≤ s := by omega
  have s2 : s < 32 := by omega
  have hprod : p1 * p2 = 4294967296 := by
    rw [hp1, hp2, ← Int.natCast_mul, ← Nat.pow_add, show (32 - s).toNat + s.toNat = 32 from by omega]; rfl
  have q1 : 0 < p1 := by rw [hp1]; exact_mod_cast Nat.pow_pos (by decide)
  have q2 : 0 < p2 := by rw [hp2]; exact_mod_cast Nat.pow_pos (by decide)
  have ee : b % 32 = s := hs.symm
  have HP1 : Hid (0 ≤ 32 - s ∧ 32 - s ≤ 32 ∧ p1 = ((2 ^ (32 - s).toNat : Nat) : Int)) := Lib.hid ⟨by omega, by omega, hp1⟩
  have HP2 : Hid (0 ≤ s ∧ s ≤ 32 ∧ p2 = ((2 ^ s.toNat : Nat) : Int)) := Lib.hid ⟨by omega, by omega, hp2⟩
  have HF : Hid (a % p1 * p2 % 4294967296 = alu 30 a b) := Lib.hid (by
    rw [sll_plain a p1 p2 hprod q2]
    show _ = a * 2 ^ (b % 32).toNat % 4294967296
    rw [ee, hp2, Int.natCast_pow]; rfl)
  have hz1 : ¬ p1 = 0 := by omega
  have hz2 : (p1 == -1) = false := by simpa using (by omega : p1 ≠ -1)
  have ew : IntKind.i64.wrap (32 - s) = 32 - s := IntWalk.i64_in _ (by omega)
  have em : a.tmod p1 = a % p1 := Int.tmod_eq_emod_of_nonneg ha
  clear hs hp1 hp2 hprod
  go_enter Try.func20, Try.ntmps20
  go_wp2_with (first | (go_at_call 59; ((with_reducible refine (signed1s a sa _ HSA HUA).mono ?_); rintro e w' ⟨rfl, rfl⟩)) | (go_at_call 59; ((with_reducible refine (signed1s b sb _ HSB HUB).mono ?_); rintro e w' ⟨rfl, rfl⟩)))
  go_quiet (first | (go_at_call 62; first | (with_reducible exact quiet_left (power1h _ _ _ HP1)) | (with_reducible exact quiet_left (power1h _ _ _ HP2))) | (go_at_call 60; exact quiet_left (of1any _ _)))
  go_wp2
  go_ret
  exact ⟨ret_int (by rw [← HF.out]), nq, rfl⟩
set_option maxRecDepth 100000 in
theorem alu1_34 (a b sa sb : Int) (w : World) (ha : 0 ≤ a) (ha' : a < 4294967296) (hb : 0 ≤ b) (hb' : b < 4294967296) (HSA : Hid (sa = wrap32 a)) (HSB : Hid (sb = wrap32 b))
    (hs1 : -2147483648 ≤ sa) (hs2 : sa ≤ 2147483647) (hs3 : -2147483648 ≤ sb) (hs4 : sb ≤ 2147483647) (HUA : Hid (U32 a)) (HUB : Hid (U32 b)) :
    Calls Try.prog 20 #[.int .i64 34, .int .u32 a, .int .u32 b] w fun e w' => e = .returned (.int .u32 (alu 34 a b)) ∧ ∃ n, w' = w.drewN n := by
  obtain ⟨s, hs⟩ : ∃ s, s = b % 32 := ⟨_, rfl⟩
  obtain ⟨p2, hp2⟩ : ∃ p, p = ((2 ^ s.toNat : Nat) : Int) := ⟨_, rfl⟩
  have s1 : 0 ≤ s := by omega
  have s2 : s < 32 := by omega
  have q2 : 0 < p2 := by rw [hp2]; exact_mod_cast Nat.pow_pos (by decide)
  have ee : b % 32 = s := hs.symm
  have HP2 : Hid (0 ≤ s ∧ s ≤ 32 ∧ p2 = ((2 ^ s.toNat : Nat) : Int)) := Lib.hid ⟨by omega, by omega, hp2⟩
  obtain ⟨d1, d2⟩ : 0 ≤ a / p2 ∧ a / p2 ≤ a := ⟨Int.ediv_nonneg ha (by omega), Int.ediv_le_self _ ha⟩
  have HF : Hid (a / p2 = alu 34 a b) := Lib.hid (by
    show _ = a / 2 ^ (b % 32).toNat
    rw [ee, hp2, Int.natCast_pow]; rfl)
  have hz1 : (p2 == 0) = false := by simpa using (by omega : p2 ≠ 0)
  have hz2 : (p2 == -1) = false := by simpa using (by omega : p2 ≠ -1)
  have em : a.tdiv p2 = a / p2 := Int.tdiv_eq_ediv_of_nonneg ha
  clear hs hp2
  go_enter Try.func20, Try.ntmps20
  go_wp2_with (first | (go_at_call 59; ((with_reducible refine (signed1s a sa _ HSA HUA).mono ?_); rintro e w' ⟨rfl, rfl⟩)) | (go_at_call 59; ((with_reducible refine (signed1s b sb _ HSB HUB).mono ?_); rintro e w' ⟨rfl, rfl⟩)) | (go_at_call 62; refine (power1h _ _ _ HP2).mono ?_; rintro e w' ⟨rfl, rfl⟩) | (go_at_call 60; refine (of1 _ _ ?_).mono ?_; (first | omega | (unfold wrap64; omega)); rintro e w' ⟨rfl, rfl⟩))
  go_ret
  exact ⟨ret_int (by rw [← HF.out]; omega), 0, rfl⟩
set_option maxRecDepth 100000 in
theorem alu1_35 (a b sa sb : Int) (w : World) (ha : 0 ≤ a) (ha' : a < 4294967296) (hb : 0 ≤ b) (hb' : b < 4294967296) (HSA : Hid (sa = wrap32 a)) (HSB : Hid (sb = wrap32 b))
    (hs1 : -2147483648 ≤ sa) (hs2 : sa ≤ 2147483647) (hs3 : -2147483648 ≤ sb) (hs4 : sb ≤ 2147483647) (HUA : Hid (U32 a)) (HUB : Hid (U32 b)) :
    Calls Try.prog 20 #[.int .i64 35, .int .u32 a, .int .u32 b] w fun e w' => e = .returned (.int .u32 (alu 35 a b)) ∧ ∃ n, w' = w.drewN n := by
  obtain ⟨s, hs⟩ : ∃ s, s = b % 32 := ⟨_, rfl⟩
  obtain ⟨p2, hp2⟩ : ∃ p, p = ((2 ^ s.toNat : Nat) : Int) := ⟨_, rfl⟩
  have s1 : 0 ≤ s := by omega
  have s2 : s < 32 := by omega
  have q2 : 0 < p2 := by rw [hp2]; exact_mod_cast Nat.pow_pos (by decide)
  have q3 : p2 ≤ 4294967296 := by rw [hp2]; exact Int.ofNat_le.2 (pow_le32 (by omega))
  have ee : b % 32 = s := hs.symm
  have HP2 : Hid (0 ≤ s ∧ s ≤ 32 ∧ p2 = ((2 ^ s.toNat : Nat) : Int)) := Lib.hid ⟨by omega, by omega, hp2⟩
  have HF : Hid (sa / p2 % 4294967296 = alu 35 a b) := Lib.hid (by
    show _ = wrap32 a / 2 ^ (b % 32).toNat % 4294967296
    rw [ee, hp2, Int.natCast_pow, HSA.out]; rfl)
  have hd : (sa / p2).natAbs ≤ sa.natAbs := Int.natAbs_ediv_le_natAbs _ _
  have hd1 : -9223372036854775808 ≤ sa / p2 := by omega
  have hd2 : sa / p2 ≤ 9223372036854775807 := by omega
  clear hs hp2 hd
  go_enter Try.func20, Try.ntmps20
  go_wp2_with (first | (go_at_call 59; ((with_reducible refine (signed1s a sa _ HSA HUA).mono ?_); rintro e w' ⟨rfl, rfl⟩)) | (go_at_call 59; ((with_reducible refine (signed1s b sb _ HSB HUB).mono ?_); rintro e w' ⟨rfl, rfl⟩)) | (go_at_call 62; refine (power1h _ _ _ HP2).mono ?_; rintro e w' ⟨rfl, rfl⟩) | (go_at_call 63; refine (floor1 _ _ _ ?_ ?_).mono ?_; omega; omega; rintro e w' ⟨rfl, rfl⟩) | (go_at_call 60; refine (of1 _ _ ?_).mono ?_; (first | omega | (unfold wrap64; omega)); rintro e w' ⟨rfl, rfl⟩))
  go_ret
  exact ⟨ret_int (by rw [← HF.out]), 0, rfl⟩
set_option maxRecDepth 100000 in
theorem alu1_no (op a b sa sb : Int) (w : World) (ha : 0 ≤ a) (ha' : a < 4294967296) (hb : 0 ≤ b) (hb' : b < 4294967296) (HSA : Hid (sa = wrap32 a)) (HSB : Hid (sb = wrap32 b))
    (hs1 : -2147483648 ≤ sa) (hs2 : sa ≤ 2147483647) (hs3 : -2147483648 ≤ sb) (hs4 : sb ≤ 2147483647) (HUA : Hid (U32 a)) (HUB : Hid (U32 b)) (hop : op < 28 ∨ 45 < op) :
    Calls Try.prog 20 #[.int .i64 op, .int .u32 a, .int .u32 b] w fun e w' => e = .returned (.int .u32 (alu op a b)) ∧ ∃ n, w' = w.drewN n := by
  have HF : Hid (alu op a b = 0) := Lib.hid (by
    unfold alu quot
    simp only [beq_iff_eq]
    repeat (rw [if_neg (by omega)]))
  have f : ∀ c : Int, 28 ≤ c → c ≤ 45 → (op == c) = false := fun c h1 h2 => by simpa using (by omega : op ≠ c)
  have f1 := f 28 (by omega) (by omega)
  have f2 := f 29 (by omega) (by omega)
  have f3 := f 30 (by omega) (by omega)
  have f4 := f 31 (by omega) (by omega)
  have f5 := f 32 (by omega) (by omega)
  have f6 := f 33 (by omega) (by omega)
  have f7 := f 34 (by omega) (by omega)
  have f8 := f 35 (by omega) (by omega)
  have f9 := f 36 (by omega) (by omega)
  have g0 := f 37 (by omega) (by omega)
  have g1 := f 38 (by omega) (by omega)
  have g2 := f 39 (by omega) (by omega)
  have g3 := f 40 (by omega) (by omega)
  have g4 := f 41 (by omega) (by omega)
  have g5 := f 42 (by omega) (by omega)
  have g6 := f 43 (by omega) (by omega)
  have g7 := f 44 (by omega) (by omega)
  have g8 := f 45 (by omega) (by omega)
  clear f hop
  go_enter Try.func20, Try.ntmps20
  go_wp2_with (first | (go_at_call 59; ((with_reducible refine (signed1s a sa _ HSA HUA).mono ?_); rintro e w' ⟨rfl, rfl⟩)) | (go_at_call 59; ((with_reducible refine (signed1s b sb _ HSB HUB).mono ?_); rintro e w' ⟨rfl, rfl⟩)))
  go_ret
  exact ⟨ret_int HF.out.symm, 0, rfl⟩
/-- ferrybridgeref1.Alu: the same numbers as word.Alu's -/
theorem alu1_any (op a b : Int) (w : World) (ha : 0 ≤ a) (ha' : a < 4294967296) (hb : 0 ≤ b) (hb' : b < 4294967296) :
    Calls Try.prog 20 #[.int .i64 op, .int .u32 a, .int .u32 b] w fun e w' => e = .returned (.int .u32 (alu op a b)) ∧ ∃ n, w' = w.drewN n := by
  have h1 := wrap32_small a
  have h2 := wrap32_small b
  have ua := Lib.hid (show U32 a from ⟨ha, ha'⟩)
  have ub := Lib.hid (show U32 b from ⟨hb, hb'⟩)
  by_cases hop : op < 28 ∨ 45 < op
  · exact alu1_no op a b _ _ w ha ha' hb hb' (Lib.hid rfl) (Lib.hid rfl) h1.1 h1.2 h2.1 h2.2 ua ub hop
  have hc : op = 28 ∨ op = 29 ∨ op = 30 ∨ op = 31 ∨ op = 32 ∨ op = 33 ∨ op = 34 ∨ op = 35 ∨ op = 36 ∨ op = 37 ∨ op = 38 ∨ op = 39 ∨ op = 40 ∨ op = 41 ∨ op = 42 ∨ op = 43 ∨ op = 44 ∨ op = 45 := by omega
  clear hop
  rcases hc with rfl | rfl | rfl | rfl | rfl | rfl | rfl | rfl | rfl | rfl | rfl | rfl | rfl | rfl | rfl | rfl | rfl | rfl
  · exact alu1_28 a b _ _ w ha ha' hb hb' (Lib.hid rfl) (Lib.hid rfl) h1.1 h1.2 h2.1 h2.2 ua ub
  · exact alu1_29 a b _ _ w ha ha' hb hb' (Lib.hid rfl) (Lib.hid rfl) h1.1 h1.2 h2.1 h2.2 ua ub
  · exact alu1_30 a b _ _ w ha ha' hb hb' (Lib.hid rfl) (Lib.hid rfl) h1.1 h1.2 h2.1 h2.2 ua ub
  · exact alu1_31 a b _ _ w ha ha' hb hb' (Lib.hid rfl) (Lib.hid rfl) h1.1 h1.2 h2.1 h2.2 ua ub
  · exact alu1_32 a b _ _ w ha ha' hb hb' (Lib.hid rfl) (Lib.hid rfl) h1.1 h1.2 h2.1 h2.2 ua ub
  · exact alu1_33 a b _ _ w ha ha' hb hb' (Lib.hid rfl) (Lib.hid rfl) h1.1 h1.2 h2.1 h2.2 ua ub
  · exact alu1_34 a b _ _ w ha ha' hb hb' (Lib.hid rfl) (Lib.hid rfl) h1.1 h1.2 h2.1 h2.2 ua ub
  · exact alu1_35 a b _ _ w ha ha' hb hb' (Lib.hid rfl) (Lib.hid rfl) h1.1 h1.2 h2.1 h2.2 ua ub
  · exact alu1_36 a b _ _ w ha ha' hb hb' (Lib.hid rfl) (Lib.hid rfl) h1.1 h1.2 h2.1 h2.2 ua ub
  · exact alu1_37 a b _ _ w ha ha' hb hb' (Lib.hid rfl) (Lib.hid rfl) h1.1 h1.2 h2.1 h2.2 ua ub
  · exact alu1_38 a b _ _ w ha ha' hb hb' (Lib.hid rfl) (Lib.hid rfl) h1.1 h1.2 h2.1 h2.2 ua ub
  · exact alu1_39 a b _ _ w ha ha' hb hb' (Lib.hid rfl) (Lib.hid rfl) h1.1 h1.2 h2.1 h2.2 ua ub
  · exact alu1_40 a b _ _ w ha ha' hb hb' (Lib.hid rfl) (Lib.hid rfl) h1.1 h1.2 h2.1 h2.2 ua ub
  · exact alu1_41 a b _ _ w ha ha' hb hb' (Lib.hid rfl) (Lib.hid rfl) h1.1 h1.2 h2.1 h2.2 ua ub
  · exact alu1_42 a b _ _ w ha ha' hb hb' (Lib.hid rfl) (Lib.hid rfl) h1.1 h1.2 h2.1 h2.2 ua ub
  · exact alu1_43 a b _ _ w ha ha' hb hb' (Lib.hid rfl) (Lib.hid rfl) h1.1 h1.2 h2.1 h2.2 ua ub
  · exact alu1_44 a b _ _ w ha ha' hb hb' (Lib.hid rfl) (Lib.hid rfl) h1.1 h1.2 h2.1 h2.2 ua ub
  · exact alu1_45 a b _ _ w ha ha' hb hb' (Lib.hid rfl) (Lib.hid rfl) h1.1 h1.2 h2.1 h2.2 ua ub
end Go.Proofs.Ytlfnddmncbkjaab.W
