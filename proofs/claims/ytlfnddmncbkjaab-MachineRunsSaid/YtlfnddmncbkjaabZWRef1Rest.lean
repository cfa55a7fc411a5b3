/- ferrybridgeref1.Holds and Amo, walked. -/
import Derived.Test.YtlfnddmncbkjaabZWRef1Alu
namespace Go.Proofs.Ytlfnddmncbkjaab.W
set_option linter.unusedVariables false
set_option linter.unusedSimpArgs false
open Go.RowKit Fb
set_option maxHeartbeats 400000 in
theorem holds1_any (op a b : Int) (w : World) (ha : 0 ≤ a) (ha' : a < 4294967296) (hb : 0 ≤ b) (hb' : b < 4294967296) :
    Calls Try.prog 21 #[.int .i64 op, .int .u32 a, .int .u32 b] w fun e w' => e = .returned (.bool (holds op a b)) ∧ w = w' := by
  have HUA := Lib.hid (show U32 a from ⟨ha, ha'⟩)
  have HUB := Lib.hid (show U32 b from ⟨hb, hb'⟩)
  obtain ⟨sa, hsa⟩ : ∃ s, s = wrap32 a := ⟨_, rfl⟩
  obtain ⟨sb, hsb⟩ : ∃ s, s = wrap32 b := ⟨_, rfl⟩
  have HSA := Lib.hid hsa
  have HSB := Lib.hid hsb
  clear hsa hsb
  go_enter Try.func21, Try.ntmps21
  go_wp2_with (first | (go_at_call 59; ((with_reducible refine (signed1s a sa _ HSA HUA).mono ?_); rintro e w' ⟨rfl, rfl⟩)) | (go_at_call 59; ((with_reducible refine (signed1s b sb _ HSB HUB).mono ?_); rintro e w' ⟨rfl, rfl⟩)))
  all_goals go_ret
  all_goals refine ⟨ret_bool ?_, rfl⟩
  all_goals (unfold holds; rw [← HSA.out, ← HSB.out]; simp [*])
theorem amo1_alu (op c a b : Int) (w : World) (ha : 0 ≤ a) (ha' : a < 4294967296) (hb : 0 ≤ b) (hb' : b < 4294967296) (h : alu c a b = amo op a b) :
    Calls Try.prog 20 #[.int .i64 c, .int .u32 a, .int .u32 b] w fun e w' => e = .returned (.int .u32 (amo op a b)) ∧ ∃ n, w' = w.drewN n := by
  rw [← h]; exact alu1_any c a b w ha ha' hb hb'
set_option maxHeartbeats 400000 in
theorem amo1_any (op a b : Int) (w : World) (ha : 0 ≤ a) (ha' : a < 4294967296) (hb : 0 ≤ b) (hb' : b < 4294967296) :
    Calls Try.prog 22 #[.int .i64 op, .int .u32 a, .int .u32 b] w fun e w' => e = .returned (.int .u32 (amo op a b)) ∧ ∃ n, w' = w.drewN n := by
  have HUA := Lib.hid (show U32 a from ⟨ha, ha'⟩)
  have HUB := Lib.hid (show U32 b from ⟨hb, hb'⟩)
  obtain ⟨sa, hsa⟩ : ∃ s, s = wrap32 a := ⟨_, rfl⟩
  obtain ⟨sb, hsb⟩ : ∃ s, s = wrap32 b := ⟨_, rfl⟩
  have HSA := Lib.hid hsa
  have HSB := Lib.hid hsb
  clear hsa hsb
  go_enter Try.func22, Try.ntmps22
  go_wp2_with (first | (go_at_call 59; ((with_reducible refine (signed1s a sa _ HSA HUA).mono ?_); rintro e w' ⟨rfl, rfl⟩)) | (go_at_call 59; ((with_reducible refine (signed1s b sb _ HSB HUB).mono ?_); rintro e w' ⟨rfl, rfl⟩)) | (go_at_call 20; refine (alu1_any _ _ _ _ ha ha' hb hb').mono ?_; rintro e w' ⟨rfl, n, rfl⟩))
  all_goals go_ret
  all_goals refine ⟨ret_int ?_, by first | exact ⟨0, rfl⟩ | exact ⟨_, rfl⟩⟩
  all_goals have WA := wrap32_back a HUA.out
  all_goals have WB := wrap32_back b HUB.out
  all_goals have h1 := HSA.out
  all_goals have h2 := HSB.out
  all_goals clear HSA HSB HUA HUB
  all_goals simp only [beq_iff_eq, beq_eq_false_iff_ne, ne_eq, Bool.not_eq_true', decide_eq_false_iff_not, decide_eq_true_eq, Bool.not_eq_false'] at *
  all_goals subst h1 h2
  all_goals first | rfl | (subst_vars; first | rfl | (simp [amo]; done) | (simp [amo]; omega) | (exfalso; omega)) | (simp [amo, *]; done) | (simp [amo, *]; omega)
end Go.Proofs.Ytlfnddmncbkjaab.W
