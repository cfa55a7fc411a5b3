/- The walks of package word. -/
import Derived.Test.YtlfnddmncbkjaabZMA
namespace Go.Proofs.Ytlfnddmncbkjaab.W
set_option linter.unusedVariables false
set_option linter.unusedSimpArgs false
open Go.RowKit Fb
theorem truth_any (b : Bool) (w : World) :
    Calls Try.prog 55 #[.bool b] w fun e w' => e = .returned (.int .u32 (if b = true then 1 else 0)) ∧ w = w' := by
  cases b
  all_goals
    go_enter Try.func55, Try.ntmps55
    go_wp2
    go_ret
    exact ⟨rfl, rfl⟩
theorem high_any (a b : Int) (w : World) :
    Calls Try.prog 56 #[.int .i64 a, .int .i64 b] w fun e w' => e = .returned (.int .u32 (IntKind.u64.wrap (wrap64 (a * b)) / 4294967296 % 4294967296)) ∧ w = w' := by
  go_enter Try.func56, Try.ntmps56
  go_wp2
  go_ret
  exact ⟨rfl, rfl⟩
set_option maxHeartbeats 400000 in
theorem divide_any (a b : Int) (w : World) (ha : -2147483648 ≤ a) (ha' : a ≤ 2147483647) :
    Calls Try.prog 97 #[.int .i32 a, .int .i32 b] w fun e w' => e = .returned (.tuple #[.int .i32 (divq a b), .int .i32 (divr a b)]) ∧ ∃ n, w' = w.drewN n := by
  by_cases h0 : b = 0
  · subst h0
    go_enter Try.func97, Try.ntmps97
    go_wp2
    go_ret2
    exact ⟨rfl, 0, rfl⟩
  · by_cases h1 : b = -1
    · subst h1
      go_enter Try.func97, Try.ntmps97
      go_wp2
      go_ret2
      exact ⟨rfl, 0, rfl⟩
    · have hz : (b == 0) = false := by simpa using h0
      have hz1 : (b == -1) = false := by simpa using h1
      go_enter Try.func97, Try.ntmps97
      go_wp2
      go_quiet (fail)
      go_wp2
      go_ret2
      refine ⟨?_, nq, rfl⟩
      have e1 : wrap32 (a.tdiv b) = divq a b := by
        rw [divq, if_neg h0, if_neg h1]
        have := tdiv_small a b ha ha' h0 h1
        unfold wrap32; omega
      have e2 : a.tmod b = divr a b := by rw [divr, if_neg h0, if_neg h1]
      rw [← e1, ← e2]
      rfl
set_option maxHeartbeats 400000 in
theorem quotient_any (op a b : Int) (w : World) (ha : 0 ≤ a) (ha' : a < 4294967296) (hb : 0 ≤ b) (hb' : b < 4294967296) :
    Calls Try.prog 58 #[.int .i64 op, .int .u32 a, .int .u32 b] w fun e w' => e = .returned (.int .u32 (quot op a b)) ∧ ∃ n, w' = w.drewN n := by
  have hs := wrap32_small a
  by_cases h0 : b = 0
  · have hz : (b == 0) = true := by simpa using h0
    have H0 := Lib.hid h0
    clear h0
    go_enter Try.func58, Try.ntmps58
    go_wp2_with (go_at_call 97; refine (divide_any _ _ _ hs.1 hs.2).mono ?_; rintro e w' ⟨rfl, n, rfl⟩)
    all_goals go_ret
    all_goals refine ⟨ret_int ?_, n, rfl⟩
    all_goals have h0 := H0.out
    all_goals simp [quot, *]
  · have hz : (b == 0) = false := by simpa using h0
    go_enter Try.func58, Try.ntmps58
    go_wp2_with (go_at_call 97; refine (divide_any _ _ _ hs.1 hs.2).mono ?_; rintro e w' ⟨rfl, n, rfl⟩)
    all_goals go_ret
    all_goals refine ⟨ret_int ?_, n, rfl⟩
    all_goals simp [quot, *]
set_option maxHeartbeats 1000000 in
theorem alu_any (op a b : Int) (w : World) (ha : 0 ≤ a) (ha' : a < 4294967296) (hb : 0 ≤ b) (hb' : b < 4294967296) :
    Calls Try.prog 17 #[.int .i64 op, .int .u32 a, .int .u32 b] w fun e w' => e = .returned (.int .u32 (alu op a b)) ∧ ∃ n, w' = w.drewN n := by
  have hm : bits .and .u32 b 31 = b % 32 := mask32 b 5 (by omega) 31 rfl hb hb'
  have hs := wrap32_small a
  have hs2 := wrap32_small b
  go_enter Try.func17, Try.ntmps17
  go_wp2_with (first | (go_at_call 58; refine (quotient_any _ _ _ _ ha ha' hb hb').mono ?_; rintro e w' ⟨rfl, n, rfl⟩) | go_in)
  all_goals go_ret
  all_goals refine ⟨ret_int ?_, by first | exact ⟨0, rfl⟩ | exact ⟨_, rfl⟩⟩
  all_goals first
    | (simp [alu, *]; done)
    | (rw [mulh_eq _ _ hs (by omega)]; simp [alu, *]; done)
    | (rw [mulhu_eq _ _ ha ha' hb hb']; simp [alu, *]; done)
set_option maxHeartbeats 400000 in
theorem holds_any (op a b : Int) (w : World) (ha : 0 ≤ a) (ha' : a < 4294967296) (hb : 0 ≤ b) (hb' : b < 4294967296) :
    Calls Try.prog 18 #[.int .i64 op, .int .u32 a, .int .u32 b] w fun e w' => e = .returned (.bool (holds op a b)) ∧ w = w' := by
  go_enter Try.func18, Try.ntmps18
  go_wp2
  all_goals go_ret
  all_goals refine ⟨ret_bool ?_, rfl⟩
  all_goals simp [holds, *]
set_option maxHeartbeats 400000 in
theorem amo_any (op a b : Int) (w : World) (ha : 0 ≤ a) (ha' : a < 4294967296) (hb : 0 ≤ b) (hb' : b < 4294967296) :
    Calls Try.prog 19 #[.int .i64 op, .int .u32 a, .int .u32 b] w fun e w' => e = .returned (.int .u32 (amo op a b)) ∧ w = w' := by
  go_enter Try.func19, Try.ntmps19
  go_wp2
  all_goals go_ret
  all_goals refine ⟨ret_int ?_, rfl⟩
  all_goals simp only [beq_iff_eq, beq_eq_false_iff_ne, ne_eq] at *
  all_goals first | (subst_vars; first | rfl | (simp [amo]; done) | (simp [amo]; omega)) | (simp [amo, *]; done) | (simp [amo, *]; omega)
end Go.Proofs.Ytlfnddmncbkjaab.W
