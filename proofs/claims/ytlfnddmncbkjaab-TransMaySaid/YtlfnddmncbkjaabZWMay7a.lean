/- ferrybridgeref7.named, walked. -/
import Derived.Test.YtlfnddmncbkjaabZMB
import Derived.Test.YtlfnddmncbkjaabZMA
namespace Go.Proofs.Ytlfnddmncbkjaab.Fb
set_option linter.unusedVariables false
set_option linter.unusedSimpArgs false
open Go.RowKit
/-- the kinds with an operation -/
def namedK (c s : Int) : Int :=
  if c = 100 then (if 5 ≤ s ∧ s ≤ 10 then 14 else -1)
  else if c = 200 then (if 11 ≤ s ∧ s ≤ 15 then 11 else -1)
  else if c = 300 then (if 16 ≤ s ∧ s ≤ 18 then 14 else -1)
  else if c = 400 then (if 28 ≤ s ∧ s ≤ 45 then 7 else -1)
  else if c = 500 then (if 28 ≤ s ∧ s ≤ 45 then 11 else -1)
  else if c = 600 then (if 46 ≤ s ∧ s ≤ 56 then 7 else -1)
  else -1
theorem namedI_k {op : Int} (h : ¬ (op = 1 ∨ op = 3) ∧ ¬ op = 2 ∧ ¬ op = 4 ∧ ¬ (op = 5 ∨ op = 6)) : namedI op = namedK (op - op.tmod 100) (op.tmod 100) := by
  unfold namedI namedK
  rw [if_neg h.1, if_neg h.2.1, if_neg h.2.2.1, if_neg h.2.2.2]
theorem tmod100 (op : Int) (h : -9223372036854775808 ≤ op ∧ op ≤ 9223372036854775807) : wrap64 (op - op.tmod 100) = op - op.tmod 100 ∧ -100 < op.tmod 100 ∧ op.tmod 100 < 100 := by
  have h1 : -100 < op.tmod 100 ∧ op.tmod 100 < 100 := by
    rcases Int.le_total 0 op with h0 | h0
    · rw [Int.tmod_eq_emod_of_nonneg h0]; omega
    · have e : op.tmod 100 = -((-op).tmod 100) := by rw [Int.neg_tmod]; simp
      rw [e, Int.tmod_eq_emod_of_nonneg (by omega)]; omega
  have h2 : (0 ≤ op → 0 ≤ op.tmod 100 ∧ op.tmod 100 ≤ op) ∧ (op ≤ 0 → op ≤ op.tmod 100 ∧ op.tmod 100 ≤ 0) := by
    refine ⟨fun h0 => ?_, fun h0 => ?_⟩
    · rw [Int.tmod_eq_emod_of_nonneg h0]; omega
    · have e : op.tmod 100 = -((-op).tmod 100) := by rw [Int.neg_tmod]; simp
      rw [e, Int.tmod_eq_emod_of_nonneg (by omega)]; omega
  refine ⟨?_, h1⟩
  unfold wrap64
  rcases Int.le_total 0 op with h0 | h0
  · have := h2.1 h0; omega
  · have := h2.2 h0; omega
end Go.Proofs.Ytlfnddmncbkjaab.Fb
namespace Go.Proofs.Ytlfnddmncbkjaab.W
open Go.RowKit Fb
set_option maxRecDepth 100000 in
set_option maxHeartbeats 800000 in
theorem named7_1 (w : World) : Calls Try.prog 79 #[.int .i64 1] w fun e w' => e = .returned (.int .i64 8) ∧ w' = w := by
  go_enter Try.func79, Try.ntmps79
  go_wp2_with fail
  go_ret
  exact ⟨rfl, rfl⟩
set_option maxRecDepth 100000 in
set_option maxHeartbeats 800000 in
theorem named7_3 (w : World) : Calls Try.prog 79 #[.int .i64 3] w fun e w' => e = .returned (.int .i64 8) ∧ w' = w := by
  go_enter Try.func79, Try.ntmps79
  go_wp2_with fail
  go_ret
  exact ⟨rfl, rfl⟩
set_option maxRecDepth 100000 in
set_option maxHeartbeats 800000 in
theorem named7_2 (w : World) : Calls Try.prog 79 #[.int .i64 2] w fun e w' => e = .returned (.int .i64 9) ∧ w' = w := by
  go_enter Try.func79, Try.ntmps79
  go_wp2_with fail
  go_ret
  exact ⟨rfl, rfl⟩
set_option maxRecDepth 100000 in
set_option maxHeartbeats 800000 in
theorem named7_4 (w : World) : Calls Try.prog 79 #[.int .i64 4] w fun e w' => e = .returned (.int .i64 10) ∧ w' = w := by
  go_enter Try.func79, Try.ntmps79
  go_wp2_with fail
  go_ret
  exact ⟨rfl, rfl⟩
set_option maxRecDepth 100000 in
set_option maxHeartbeats 800000 in
theorem named7_5 (w : World) : Calls Try.prog 79 #[.int .i64 5] w fun e w' => e = .returned (.int .i64 0) ∧ w' = w := by
  go_enter Try.func79, Try.ntmps79
  go_wp2_with fail
  go_ret
  exact ⟨rfl, rfl⟩
set_option maxRecDepth 100000 in
set_option maxHeartbeats 800000 in
theorem named7_6 (w : World) : Calls Try.prog 79 #[.int .i64 6] w fun e w' => e = .returned (.int .i64 0) ∧ w' = w := by
  go_enter Try.func79, Try.ntmps79
  go_wp2_with fail
  go_ret
  exact ⟨rfl, rfl⟩
set_option maxRecDepth 100000 in
set_option maxHeartbeats 800000 in
theorem named7_k100_in (op s : Int) (w : World) (h1 : ¬ op = 1) (h2 : ¬ op = 2) (h3 : ¬ op = 3) (h4 : ¬ op = 4) (h5 : ¬ op = 5) (h6 : ¬ op = 6) (hw : wrap64 (op - op.tmod 100) = 100) (hm : op.tmod 100 = s) (hs : 5 ≤ s ∧ s ≤ 10)  : Calls Try.prog 79 #[.int .i64 op] w fun e w' => e = .returned (.int .i64 14) ∧ w' = w := by
  have a1 : (op == 1) = false := by simp; omega
  have d1 : decide (op = 1) = false := by simp; omega
  have a2 : (op == 2) = false := by simp; omega
  have d2 : decide (op = 2) = false := by simp; omega
  have a3 : (op == 3) = false := by simp; omega
  have d3 : decide (op = 3) = false := by simp; omega
  have a4 : (op == 4) = false := by simp; omega
  have d4 : decide (op = 4) = false := by simp; omega
  have a5 : (op == 5) = false := by simp; omega
  have d5 : decide (op = 5) = false := by simp; omega
  have a6 : (op == 6) = false := by simp; omega
  have d6 : decide (op = 6) = false := by simp; omega
  obtain ⟨s1, s2⟩ := hs
  have b1 : decide (5 ≤ s) = true := decide_eq_true s1
  have b2 : decide (s ≤ 10) = true := decide_eq_true s2
  have HW := Lib.hid hw
  have HM := Lib.hid hm
  clear hw hm
  go_enter Try.func79, Try.ntmps79
  go_upto_region 13 with (fail)
  try rw [HM.out]
  go_upto_region 14 with (fail)
  try rw [HM.out]
  (try rw [← HM.out, HW.out]); (try rw [HM.out])
  go_wp2_with fail
  go_ret
  exact ⟨rfl, rfl⟩
set_option maxRecDepth 100000 in
set_option maxHeartbeats 800000 in
theorem named7_k100_lo (op s : Int) (w : World) (h1 : ¬ op = 1) (h2 : ¬ op = 2) (h3 : ¬ op = 3) (h4 : ¬ op = 4) (h5 : ¬ op = 5) (h6 : ¬ op = 6) (hw : wrap64 (op - op.tmod 100) = 100) (hm : op.tmod 100 = s) (hs : ¬ 5 ≤ s)  : Calls Try.prog 79 #[.int .i64 op] w fun e w' => e = .returned (.int .i64 (-1)) ∧ w' = w := by
  have a1 : (op == 1) = false := by simp; omega
  have d1 : decide (op = 1) = false := by simp; omega
  have a2 : (op == 2) = false := by simp; omega
  have d2 : decide (op = 2) = false := by simp; omega
  have a3 : (op == 3) = false := by simp; omega
  have d3 : decide (op = 3) = false := by simp; omega
  have a4 : (op == 4) = false := by simp; omega
  have d4 : decide (op = 4) = false := by simp; omega
  have a5 : (op == 5) = false := by simp; omega
  have d5 : decide (op = 5) = false := by simp; omega
  have a6 : (op == 6) = false := by simp; omega
  have d6 : decide (op = 6) = false := by simp; omega
  have b1 : decide (5 ≤ s) = false := decide_eq_false hs
  have HW := Lib.hid hw
  have HM := Lib.hid hm
  clear hw hm
  go_enter Try.func79, Try.ntmps79
  go_upto_region 13 with (fail)
  try rw [HM.out]
  go_upto_region 14 with (fail)
  try rw [HM.out]
  (try rw [← HM.out, HW.out]); (try rw [HM.out])
  go_wp2_with fail
  go_ret
  exact ⟨rfl, rfl⟩
set_option maxRecDepth 100000 in
set_option maxHeartbeats 800000 in
theorem named7_k100_hi (op s : Int) (w : World) (h1 : ¬ op = 1) (h2 : ¬ op = 2) (h3 : ¬ op = 3) (h4 : ¬ op = 4) (h5 : ¬ op = 5) (h6 : ¬ op = 6) (hw : wrap64 (op - op.tmod 100) = 100) (hm : op.tmod 100 = s) (hs : 5 ≤ s ∧ ¬ s ≤ 10)  : Calls Try.prog 79 #[.int .i64 op] w fun e w' => e = .returned (.int .i64 (-1)) ∧ w' = w := by
  have a1 : (op == 1) = false := by simp; omega
  have d1 : decide (op = 1) = false := by simp; omega
  have a2 : (op == 2) = false := by simp; omega
  have d2 : decide (op = 2) = false := by simp; omega
  have a3 : (op == 3) = false := by simp; omega
  have d3 : decide (op = 3) = false := by simp; omega
  have a4 : (op == 4) = false := by simp; omega
  have d4 : decide (op = 4) = false := by simp; omega
  have a5 : (op == 5) = false := by simp; omega
  have d5 : decide (op = 5) = false := by simp; omega
  have a6 : (op == 6) = false := by simp; omega
  have d6 : decide (op = 6) = false := by simp; omega
  obtain ⟨s1, s2⟩ := hs
  have b1 : decide (5 ≤ s) = true := decide_eq_true s1
  have b2 : decide (s ≤ 10) = false := decide_eq_false s2
  have HW := Lib.hid hw
  have HM := Lib.hid hm
  clear hw hm
  go_enter Try.func79, Try.ntmps79
  go_upto_region 13 with (fail)
  try rw [HM.out]
  go_upto_region 14 with (fail)
  try rw [HM.out]
  (try rw [← HM.out, HW.out]); (try rw [HM.out])
  go_wp2_with fail
  go_ret
  exact ⟨rfl, rfl⟩
set_option maxRecDepth 100000 in
set_option maxHeartbeats 800000 in
theorem named7_k200_in (op s : Int) (w : World) (h1 : ¬ op = 1) (h2 : ¬ op = 2) (h3 : ¬ op = 3) (h4 : ¬ op = 4) (h5 : ¬ op = 5) (h6 : ¬ op = 6) (hw : wrap64 (op - op.tmod 100) = 200) (hm : op.tmod 100 = s) (hs : 11 ≤ s ∧ s ≤ 15)  : Calls Try.prog 79 #[.int .i64 op] w fun e w' => e = .returned (.int .i64 11) ∧ w' = w := by
  have a1 : (op == 1) = false := by simp; omega
  have d1 : decide (op = 1) = false := by simp; omega
  have a2 : (op == 2) = false := by simp; omega
  have d2 : decide (op = 2) = false := by simp; omega
  have a3 : (op == 3) = false := by simp; omega
  have d3 : decide (op = 3) = false := by simp; omega
  have a4 : (op == 4) = false := by simp; omega
  have d4 : decide (op = 4) = false := by simp; omega
  have a5 : (op == 5) = false := by simp; omega
  have d5 : decide (op = 5) = false := by simp; omega
  have a6 : (op == 6) = false := by simp; omega
  have d6 : decide (op = 6) = false := by simp; omega
  obtain ⟨s1, s2⟩ := hs
  have b1 : decide (11 ≤ s) = true := decide_eq_true s1
  have b2 : decide (s ≤ 15) = true := decide_eq_true s2
  have HW := Lib.hid hw
  have HM := Lib.hid hm
  clear hw hm
  go_enter Try.func79, Try.ntmps79
  go_upto_region 13 with (fail)
  try rw [HM.out]
  go_upto_region 14 with (fail)
  try rw [HM.out]
  (try rw [← HM.out, HW.out]); (try rw [HM.out])
  go_wp2_with fail
  go_ret
  exact ⟨rfl, rfl⟩
set_option maxRecDepth 100000 in
set_option maxHeartbeats 800000 in
theorem named7_k200_lo (op s : Int) (w : World) (h1 : ¬ op = 1) (h2 : ¬ op = 2) (h3 : ¬ op = 3) (h4 : ¬ op = 4) (h5 : ¬ op = 5) (h6 : ¬ op = 6) (hw : wrap64 (op - op.tmod 100) = 200) (hm : op.tmod 100 = s) (hs : ¬ 11 ≤ s)  : Calls Try.prog 79 #[.int .i64 op] w fun e w' => e = .returned (.int .i64 (-1)) ∧ w' = w := by
  have a1 : (op == 1) = false := by simp; omega
  have d1 : decide (op = 1) = false := by simp; omega
  have a2 : (op == 2) = false := by simp; omega
  have d2 : decide (op = 2) = false := by simp; omega
  have a3 : (op == 3) = false := by simp; omega
  have d3 : decide (op = 3) = false := by simp; omega
  have a4 : (op == 4) = false := by simp; omega
  have d4 : decide (op = 4) = false := by simp; omega
  have a5 : (op == 5) = false := by simp; omega
  have d5 : decide (op = 5) = false := by simp; omega
  have a6 : (op == 6) = false := by simp; omega
  have d6 : decide (op = 6) = false := by simp; omega
  have b1 : decide (11 ≤ s) = false := decide_eq_false hs
  have HW := Lib.hid hw
  have HM := Lib.hid hm
  clear hw hm
  go_enter Try.func79, Try.ntmps79
  go_upto_region 13 with (fail)
  try rw [HM.out]
  go_upto_region 14 with (fail)
  try rw [HM.out]
  (try rw [← HM.out, HW.out]); (try rw [HM.out])
  go_wp2_with fail
  go_ret
  exact ⟨rfl, rfl⟩
set_option maxRecDepth 100000 in
set_option maxHeartbeats 800000 in
theorem named7_k200_hi (op s : Int) (w : World) (h1 : ¬ op = 1) (h2 : ¬ op = 2) (h3 : ¬ op = 3) (h4 : ¬ op = 4) (h5 : ¬ op = 5) (h6 : ¬ op = 6) (hw : wrap64 (op - op.tmod 100) = 200) (hm : op.tmod 100 = s) (hs : 11 ≤ s ∧ ¬ s ≤ 15)  : Calls Try.prog 79 #[.int .i64 op] w fun e w' => e = .returned (.int .i64 (-1)) ∧ w' = w := by
  have a1 : (op == 1) = false := by simp; omega
  have d1 : decide (op = 1) = false := by simp; omega
  have a2 : (op == 2) = false := by simp; omega
  have d2 : decide (op = 2) = false := by simp; omega
  have a3 : (op == 3) = false := by simp; omega
  have d3 : decide (op = 3) = false := by simp; omega
  have a4 : (op == 4) = false := by simp; omega
  have d4 : decide (op = 4) = false := by simp; omega
  have a5 : (op == 5) = false := by simp; omega
  have d5 : decide (op = 5) = false := by simp; omega
  have a6 : (op == 6) = false := by simp; omega
  have d6 : decide (op = 6) = false := by simp; omega
  obtain ⟨s1, s2⟩ := hs
  have b1 : decide (11 ≤ s) = true := decide_eq_true s1
  have b2 : decide (s ≤ 15) = false := decide_eq_false s2
  have HW := Lib.hid hw
  have HM := Lib.hid hm
  clear hw hm
  go_enter Try.func79, Try.ntmps79
  go_upto_region 13 with (fail)
  try rw [HM.out]
  go_upto_region 14 with (fail)
  try rw [HM.out]
  (try rw [← HM.out, HW.out]); (try rw [HM.out])
  go_wp2_with fail
  go_ret
  exact ⟨rfl, rfl⟩
set_option maxRecDepth 100000 in
set_option maxHeartbeats 800000 in
theorem named7_k300_in (op s : Int) (w : World) (h1 : ¬ op = 1) (h2 : ¬ op = 2) (h3 : ¬ op = 3) (h4 : ¬ op = 4) (h5 : ¬ op = 5) (h6 : ¬ op = 6) (hw : wrap64 (op - op.tmod 100) = 300) (hm : op.tmod 100 = s) (hs : 16 ≤ s ∧ s ≤ 18)  : Calls Try.prog 79 #[.int .i64 op] w fun e w' => e = .returned (.int .i64 14) ∧ w' = w := by
  have a1 : (op == 1) = false := by simp; omega
  have d1 : decide (op = 1) = false := by simp; omega
  have a2 : (op == 2) = false := by simp; omega
  have d2 : decide (op = 2) = false := by simp; omega
  have a3 : (op == 3) = false := by simp; omega
  have d3 : decide (op = 3) = false := by simp; omega
  have a4 : (op == 4) = false := by simp; omega
  have d4 : decide (op = 4) = false := by simp; omega
  have a5 : (op == 5) = false := by simp; omega
  have d5 : decide (op = 5) = false := by simp; omega
  have a6 : (op == 6) = false := by simp; omega
  have d6 : decide (op = 6) = false := by simp; omega
  obtain ⟨s1, s2⟩ := hs
  have b1 : decide (16 ≤ s) = true := decide_eq_true s1
  have b2 : decide (s ≤ 18) = true := decide_eq_true s2
  have HW := Lib.hid hw
  have HM := Lib.hid hm
  clear hw hm
  go_enter Try.func79, Try.ntmps79
  go_upto_region 13 with (fail)
  try rw [HM.out]
  go_upto_region 14 with (fail)
  try rw [HM.out]
  (try rw [← HM.out, HW.out]); (try rw [HM.out])
  go_wp2_with fail
  go_ret
  exact ⟨rfl, rfl⟩
set_option maxRecDepth 100000 in
set_option maxHeartbeats 800000 in
theorem named7_k300_lo (op s : Int) (w : World) (h1 : ¬ op = 1) (h2 : ¬ op = 2) (h3 : ¬ op = 3) (h4 : ¬ op = 4) (h5 : ¬ op = 5) (h6 : ¬ op = 6) (hw : wrap64 (op - op.tmod 100) = 300) (hm : op.tmod 100 = s) (hs : ¬ 16 ≤ s)  : Calls Try.prog 79 #[.int .i64 op] w fun e w' => e = .returned (.int .i64 (-1)) ∧ w' = w := by
  have a1 : (op == 1) = false := by simp; omega
  have d1 : decide (op = 1) = false := by simp; omega
  have a2 : (op == 2) = false := by simp; omega
  have d2 : decide (op = 2) = false := by simp; omega
  have a3 : (op == 3) = false := by simp; omega
  have d3 : decide (op = 3) = false := by simp; omega
  have a4 : (op == 4) = false := by simp; omega
  have d4 : decide (op = 4) = false := by simp; omega
  have a5 : (op == 5) = false := by simp; omega
  have d5 : decide (op = 5) = false := by simp; omega
  have a6 : (op == 6) = false := by simp; omega
  have d6 : decide (op = 6) = false := by simp; omega
  have b1 : decide (16 ≤ s) = false := decide_eq_false hs
  have HW := Lib.hid hw
  have HM := Lib.hid hm
  clear hw hm
  go_enter Try.func79, Try.ntmps79
  go_upto_region 13 with (fail)
  try rw [HM.out]
  go_upto_region 14 with (fail)
  try rw [HM.out]
  (try rw [← HM.out, HW.out]); (try rw [HM.out])
  go_wp2_with fail
  go_ret
  exact ⟨rfl, rfl⟩
set_option maxRecDepth 100000 in
set_option maxHeartbeats 800000 in
theorem named7_k300_hi (op s : Int) (w : World) (h1 : ¬ op = 1) (h2 : ¬ op = 2) (h3 : ¬ op = 3) (h4 : ¬ op = 4) (h5 : ¬ op = 5) (h6 : ¬ op = 6) (hw : wrap64 (op - op.tmod 100) = 300) (hm : op.tmod 100 = s) (hs : 16 ≤ s ∧ ¬ s ≤ 18)  : Calls Try.prog 79 #[.int .i64 op] w fun e w' => e = .returned (.int .i64 (-1)) ∧ w' = w := by
  have a1 : (op == 1) = false := by simp; omega
  have d1 : decide (op = 1) = false := by simp; omega
  have a2 : (op == 2) = false := by simp; omega
  have d2 : decide (op = 2) = false := by simp; omega
  have a3 : (op == 3) = false := by simp; omega
  have d3 : decide (op = 3) = false := by simp; omega
  have a4 : (op == 4) = false := by simp; omega
  have d4 : decide (op = 4) = false := by simp; omega
  have a5 : (op == 5) = false := by simp; omega
  have d5 : decide (op = 5) = false := by simp; omega
  have a6 : (op == 6) = false := by simp; omega
  have d6 : decide (op = 6) = false := by simp; omega
  obtain ⟨s1, s2⟩ := hs
  have b1 : decide (16 ≤ s) = true := decide_eq_true s1
  have b2 : decide (s ≤ 18) = false := decide_eq_false s2
  have HW := Lib.hid hw
  have HM := Lib.hid hm
  clear hw hm
  go_enter Try.func79, Try.ntmps79
  go_upto_region 13 with (fail)
  try rw [HM.out]
  go_upto_region 14 with (fail)
  try rw [HM.out]
  (try rw [← HM.out, HW.out]); (try rw [HM.out])
  go_wp2_with fail
  go_ret
  exact ⟨rfl, rfl⟩
set_option maxRecDepth 100000 in
set_option maxHeartbeats 800000 in
theorem named7_k400_in (op s : Int) (w : World) (h1 : ¬ op = 1) (h2 : ¬ op = 2) (h3 : ¬ op = 3) (h4 : ¬ op = 4) (h5 : ¬ op = 5) (h6 : ¬ op = 6) (hw : wrap64 (op - op.tmod 100) = 400) (hm : op.tmod 100 = s) (hs : 28 ≤ s ∧ s ≤ 45)  : Calls Try.prog 79 #[.int .i64 op] w fun e w' => e = .returned (.int .i64 7) ∧ w' = w := by
  have a1 : (op == 1) = false := by simp; omega
  have d1 : decide (op = 1) = false := by simp; omega
  have a2 : (op == 2) = false := by simp; omega
  have d2 : decide (op = 2) = false := by simp; omega
  have a3 : (op == 3) = false := by simp; omega
  have d3 : decide (op = 3) = false := by simp; omega
  have a4 : (op == 4) = false := by simp; omega
  have d4 : decide (op = 4) = false := by simp; omega
  have a5 : (op == 5) = false := by simp; omega
  have d5 : decide (op = 5) = false := by simp; omega
  have a6 : (op == 6) = false := by simp; omega
  have d6 : decide (op = 6) = false := by simp; omega
  obtain ⟨s1, s2⟩ := hs
  have b1 : decide (28 ≤ s) = true := decide_eq_true s1
  have b2 : decide (s ≤ 45) = true := decide_eq_true s2
  have HW := Lib.hid hw
  have HM := Lib.hid hm
  clear hw hm
  go_enter Try.func79, Try.ntmps79
  go_upto_region 13 with (fail)
  try rw [HM.out]
  go_upto_region 14 with (fail)
  try rw [HM.out]
  (try rw [← HM.out, HW.out]); (try rw [HM.out])
  go_wp2_with fail
  go_ret
  exact ⟨rfl, rfl⟩
set_option maxRecDepth 100000 in
set_option maxHeartbeats 800000 in
theorem named7_k400_lo (op s : Int) (w : World) (h1 : ¬ op = 1) (h2 : ¬ op = 2) (h3 : ¬ op = 3) (h4 : ¬ op = 4) (h5 : ¬ op = 5) (h6 : ¬ op = 6) (hw : wrap64 (op - op.tmod 100) = 400) (hm : op.tmod 100 = s) (hs : ¬ 28 ≤ s)  : Calls Try.prog 79 #[.int .i64 op] w fun e w' => e = .returned (.int .i64 (-1)) ∧ w' = w := by
  have a1 : (op == 1) = false := by simp; omega
  have d1 : decide (op = 1) = false := by simp; omega
  have a2 : (op == 2) = false := by simp; omega
  have d2 : decide (op = 2) = false := by simp; omega
  have a3 : (op == 3) = false := by simp; omega
  have d3 : decide (op = 3) = false := by simp; omega
  have a4 : (op == 4) = false := by simp; omega
  have d4 : decide (op = 4) = false := by simp; omega
  have a5 : (op == 5) = false := by simp; omega
  have d5 : decide (op = 5) = false := by simp; omega
  have a6 : (op == 6) = false := by simp; omega
  have d6 : decide (op = 6) = false := by simp; omega
  have b1 : decide (28 ≤ s) = false := decide_eq_false hs
  have HW := Lib.hid hw
  have HM := Lib.hid hm
  clear hw hm
  go_enter Try.func79, Try.ntmps79
  go_upto_region 13 with (fail)
  try rw [HM.out]
  go_upto_region 14 with (fail)
  try rw [HM.out]
  (try rw [← HM.out, HW.out]); (try rw [HM.out])
  go_wp2_with fail
  go_ret
  exact ⟨rfl, rfl⟩
set_option maxRecDepth 100000 in
set_option maxHeartbeats 800000 in
theorem named7_k400_hi (op s : Int) (w : World) (h1 : ¬ op = 1) (h2 : ¬ op = 2) (h3 : ¬ op = 3) (h4 : ¬ op = 4) (h5 : ¬ op = 5) (h6 : ¬ op = 6) (hw : wrap64 (op - op.tmod 100) = 400) (hm : op.tmod 100 = s) (hs : 28 ≤ s ∧ ¬ s ≤ 45)  : Calls Try.prog 79 #[.int .i64 op] w fun e w' => e = .returned (.int .i64 (-1)) ∧ w' = w := by
  have a1 : (op == 1) = false := by simp; omega
  have d1 : decide (op = 1) = false := by simp; omega
  have a2 : (op == 2) = false := by simp; omega
  have d2 : decide (op = 2) = false := by simp; omega
  have a3 : (op == 3) = false := by simp; omega
  have d3 : decide (op = 3) = false := by simp; omega
  have a4 : (op == 4) = false := by simp; omega
  have d4 : decide (op = 4) = false := by simp; omega
  have a5 : (op == 5) = false := by simp; omega
  have d5 : decide (op = 5) = false := by simp; omega
  have a6 : (op == 6) = false := by simp; omega
  have d6 : decide (op = 6) = false := by simp; omega
  obtain ⟨s1, s2⟩ := hs
  have b1 : decide (28 ≤ s) = true := decide_eq_true s1
  have b2 : decide (s ≤ 45) = false := decide_eq_false s2
  have HW := Lib.hid hw
  have HM := Lib.hid hm
  clear hw hm
  go_enter Try.func79, Try.ntmps79
  go_upto_region 13 with (fail)
  try rw [HM.out]
  go_upto_region 14 with (fail)
  try rw [HM.out]
  (try rw [← HM.out, HW.out]); (try rw [HM.out])
  go_wp2_with fail
  go_ret
  exact ⟨rfl, rfl⟩
set_option maxRecDepth 100000 in
set_option maxHeartbeats 800000 in
theorem named7_k500_in (op s : Int) (w : World) (h1 : ¬ op = 1) (h2 : ¬ op = 2) (h3 : ¬ op = 3) (h4 : ¬ op = 4) (h5 : ¬ op = 5) (h6 : ¬ op = 6) (hw : wrap64 (op - op.tmod 100) = 500) (hm : op.tmod 100 = s) (hs : 28 ≤ s ∧ s ≤ 45)  : Calls Try.prog 79 #[.int .i64 op] w fun e w' => e = .returned (.int .i64 11) ∧ w' = w := by
  have a1 : (op == 1) = false := by simp; omega
  have d1 : decide (op = 1) = false := by simp; omega
  have a2 : (op == 2) = false := by simp; omega
  have d2 : decide (op = 2) = false := by simp; omega
  have a3 : (op == 3) = false := by simp; omega
  have d3 : decide (op = 3) = false := by simp; omega
  have a4 : (op == 4) = false := by simp; omega
  have d4 : decide (op = 4) = false := by simp; omega
  have a5 : (op == 5) = false := by simp; omega
  have d5 : decide (op = 5) = false := by simp; omega
  have a6 : (op == 6) = false := by simp; omega
  have d6 : decide (op = 6) = false := by simp; omega
  obtain ⟨s1, s2⟩ := hs
  have b1 : decide (28 ≤ s) = true := decide_eq_true s1
  have b2 : decide (s ≤ 45) = true := decide_eq_true s2
  have HW := Lib.hid hw
  have HM := Lib.hid hm
  clear hw hm
  go_enter Try.func79, Try.ntmps79
  go_upto_region 13 with (fail)
  try rw [HM.out]
  go_upto_region 14 with (fail)
  try rw [HM.out]
  (try rw [← HM.out, HW.out]); (try rw [HM.out])
  go_wp2_with fail
  go_ret
  exact ⟨rfl, rfl⟩
set_option maxRecDepth 100000 in
set_option maxHeartbeats 800000 in
theorem named7_k500_lo (op s : Int) (w : World) (h1 : ¬ op = 1) (h2 : ¬ op = 2) (h3 : ¬ op = 3) (h4 : ¬ op = 4) (h5 : ¬ op = 5) (h6 : ¬ op = 6) (hw : wrap64 (op - op.tmod 100) = 500) (hm : op.tmod 100 = s) (hs : ¬ 28 ≤ s)  : Calls Try.prog 79 #[.int .i64 op] w fun e w' => e = .returned (.int .i64 (-1)) ∧ w' = w := by
  have a1 : (op == 1) = false := by simp; omega
  have d1 : decide (op = 1) = false := by simp; omega
  have a2 : (op == 2) = false := by simp; omega
  have d2 : decide (op = 2) = false := by simp; omega
  have a3 : (op == 3) = false := by simp; omega
  have d3 : decide (op = 3) = false := by simp; omega
  have a4 : (op == 4) = false := by simp; omega
  have d4 : decide (op = 4) = false := by simp; omega
  have a5 : (op == 5) = false := by simp; omega
  have d5 : decide (op = 5) = false := by simp; omega
  have a6 : (op == 6) = false := by simp; omega
  have d6 : decide (op = 6) = false := by simp; omega
  have b1 : decide (28 ≤ s) = false := decide_eq_false hs
  have HW := Lib.hid hw
  have HM := Lib.hid hm
  clear hw hm
  go_enter Try.func79, Try.ntmps79
  go_upto_region 13 with (fail)
  try rw [HM.out]
  go_upto_region 14 with (fail)
  try rw [HM.out]
  (try rw [← HM.out, HW.out]); (try rw [HM.out])
  go_wp2_with fail
  go_ret
  exact ⟨rfl, rfl⟩
set_option maxRecDepth 100000 in
set_option maxHeartbeats 800000 in
theorem named7_k500_hi (op s : Int) (w : World) (h1 : ¬ op = 1) (h2 : ¬ op = 2) (h3 : ¬ op = 3) (h4 : ¬ op = 4) (h5 : ¬ op = 5) (h6 : ¬ op = 6) (hw : wrap64 (op - op.tmod 100) = 500) (hm : op.tmod 100 = s) (hs : 28 ≤ s ∧ ¬ s ≤ 45)  : Calls Try.prog 79 #[.int .i64 op] w fun e w' => e = .returned (.int .i64 (-1)) ∧ w' = w := by
  have a1 : (op == 1) = false := by simp; omega
  have d1 : decide (op = 1) = false := by simp; omega
  have a2 : (op == 2) = false := by simp; omega
  have d2 : decide (op = 2) = false := by simp; omega
  have a3 : (op == 3) = false := by simp; omega
  have d3 : decide (op = 3) = false := by simp; omega
  have a4 : (op == 4) = false := by simp; omega
  have d4 : decide (op = 4) = false := by simp; omega
  have a5 : (op == 5) = false := by simp; omega
  have d5 : decide (op = 5) = false := by simp; omega
  have a6 : (op == 6) = false := by simp; omega
  have d6 : decide (op = 6) = false := by simp; omega
  obtain ⟨s1, s2⟩ := hs
  have b1 : decide (28 ≤ s) = true := decide_eq_true s1
  have b2 : decide (s ≤ 45) = false := decide_eq_false s2
  have HW := Lib.hid hw
  have HM := Lib.hid hm
  clear hw hm
  go_enter Try.func79, Try.ntmps79
  go_upto_region 13 with (fail)
  try rw [HM.out]
  go_upto_region 14 with (fail)
  try rw [HM.out]
  (try rw [← HM.out, HW.out]); (try rw [HM.out])
  go_wp2_with fail
  go_ret
  exact ⟨rfl, rfl⟩
set_option maxRecDepth 100000 in
set_option maxHeartbeats 800000 in
theorem named7_k600_in (op s : Int) (w : World) (h1 : ¬ op = 1) (h2 : ¬ op = 2) (h3 : ¬ op = 3) (h4 : ¬ op = 4) (h5 : ¬ op = 5) (h6 : ¬ op = 6) (hw : wrap64 (op - op.tmod 100) = 600) (hm : op.tmod 100 = s) (hs : 46 ≤ s ∧ s ≤ 56)  : Calls Try.prog 79 #[.int .i64 op] w fun e w' => e = .returned (.int .i64 7) ∧ w' = w := by
  have a1 : (op == 1) = false := by simp; omega
  have d1 : decide (op = 1) = false := by simp; omega
  have a2 : (op == 2) = false := by simp; omega
  have d2 : decide (op = 2) = false := by simp; omega
  have a3 : (op == 3) = false := by simp; omega
  have d3 : decide (op = 3) = false := by simp; omega
  have a4 : (op == 4) = false := by simp; omega
  have d4 : decide (op = 4) = false := by simp; omega
  have a5 : (op == 5) = false := by simp; omega
  have d5 : decide (op = 5) = false := by simp; omega
  have a6 : (op == 6) = false := by simp; omega
  have d6 : decide (op = 6) = false := by simp; omega
  obtain ⟨s1, s2⟩ := hs
  have b1 : decide (46 ≤ s) = true := decide_eq_true s1
  have b2 : decide (s ≤ 56) = true := decide_eq_true s2
  have HW := Lib.hid hw
  have HM := Lib.hid hm
  clear hw hm
  go_enter Try.func79, Try.ntmps79
  go_upto_region 13 with (fail)
  try rw [HM.out]
  go_upto_region 14 with (fail)
  try rw [HM.out]
  (try rw [← HM.out, HW.out]); (try rw [HM.out])
  go_wp2_with fail
  go_ret
  exact ⟨rfl, rfl⟩
set_option maxRecDepth 100000 in
set_option maxHeartbeats 800000 in
theorem named7_k600_lo (op s : Int) (w : World) (h1 : ¬ op = 1) (h2 : ¬ op = 2) (h3 : ¬ op = 3) (h4 : ¬ op = 4) (h5 : ¬ op = 5) (h6 : ¬ op = 6) (hw : wrap64 (op - op.tmod 100) = 600) (hm : op.tmod 100 = s) (hs : ¬ 46 ≤ s)  : Calls Try.prog 79 #[.int .i64 op] w fun e w' => e = .returned (.int .i64 (-1)) ∧ w' = w := by
  have a1 : (op == 1) = false := by simp; omega
  have d1 : decide (op = 1) = false := by simp; omega
  have a2 : (op == 2) = false := by simp; omega
  have d2 : decide (op = 2) = false := by simp; omega
  have a3 : (op == 3) = false := by simp; omega
  have d3 : decide (op = 3) = false := by simp; omega
  have a4 : (op == 4) = false := by simp; omega
  have d4 : decide (op = 4) = false := by simp; omega
  have a5 : (op == 5) = false := by simp; omega
  have d5 : decide (op = 5) = false := by simp; omega
  have a6 : (op == 6) = false := by simp; omega
  have d6 : decide (op = 6) = false := by simp; omega
  have b1 : decide (46 ≤ s) = false := decide_eq_false hs
  have HW := Lib.hid hw
  have HM := Lib.hid hm
  clear hw hm
  go_enter Try.func79, Try.ntmps79
  go_upto_region 13 with (fail)
  try rw [HM.out]
  go_upto_region 14 with (fail)
  try rw [HM.out]
  (try rw [← HM.out, HW.out]); (try rw [HM.out])
  go_wp2_with fail
  go_ret
  exact ⟨rfl, rfl⟩
set_option maxRecDepth 100000 in
set_option maxHeartbeats 800000 in
theorem named7_k600_hi (op s : Int) (w : World) (h1 : ¬ op = 1) (h2 : ¬ op = 2) (h3 : ¬ op = 3) (h4 : ¬ op = 4) (h5 : ¬ op = 5) (h6 : ¬ op = 6) (hw : wrap64 (op - op.tmod 100) = 600) (hm : op.tmod 100 = s) (hs : 46 ≤ s ∧ ¬ s ≤ 56)  : Calls Try.prog 79 #[.int .i64 op] w fun e w' => e = .returned (.int .i64 (-1)) ∧ w' = w := by
  have a1 : (op == 1) = false := by simp; omega
  have d1 : decide (op = 1) = false := by simp; omega
  have a2 : (op == 2) = false := by simp; omega
  have d2 : decide (op = 2) = false := by simp; omega
  have a3 : (op == 3) = false := by simp; omega
  have d3 : decide (op = 3) = false := by simp; omega
  have a4 : (op == 4) = false := by simp; omega
  have d4 : decide (op = 4) = false := by simp; omega
  have a5 : (op == 5) = false := by simp; omega
  have d5 : decide (op = 5) = false := by simp; omega
  have a6 : (op == 6) = false := by simp; omega
  have d6 : decide (op = 6) = false := by simp; omega
  obtain ⟨s1, s2⟩ := hs
  have b1 : decide (46 ≤ s) = true := decide_eq_true s1
  have b2 : decide (s ≤ 56) = false := decide_eq_false s2
  have HW := Lib.hid hw
  have HM := Lib.hid hm
  clear hw hm
  go_enter Try.func79, Try.ntmps79
  go_upto_region 13 with (fail)
  try rw [HM.out]
  go_upto_region 14 with (fail)
  try rw [HM.out]
  (try rw [← HM.out, HW.out]); (try rw [HM.out])
  go_wp2_with fail
  go_ret
  exact ⟨rfl, rfl⟩
set_option maxRecDepth 100000 in
set_option maxHeartbeats 800000 in
theorem named7_k0_no (op s c : Int) (w : World) (h1 : ¬ op = 1) (h2 : ¬ op = 2) (h3 : ¬ op = 3) (h4 : ¬ op = 4) (h5 : ¬ op = 5) (h6 : ¬ op = 6) (hw : wrap64 (op - op.tmod 100) = c) (hm : op.tmod 100 = s)  (n100 : ¬ c = 100) (n200 : ¬ c = 200) (n300 : ¬ c = 300) (n400 : ¬ c = 400) (n500 : ¬ c = 500) (n600 : ¬ c = 600) : Calls Try.prog 79 #[.int .i64 op] w fun e w' => e = .returned (.int .i64 (-1)) ∧ w' = w := by
  have a1 : (op == 1) = false := by simp; omega
  have d1 : decide (op = 1) = false := by simp; omega
  have a2 : (op == 2) = false := by simp; omega
  have d2 : decide (op = 2) = false := by simp; omega
  have a3 : (op == 3) = false := by simp; omega
  have d3 : decide (op = 3) = false := by simp; omega
  have a4 : (op == 4) = false := by simp; omega
  have d4 : decide (op = 4) = false := by simp; omega
  have a5 : (op == 5) = false := by simp; omega
  have d5 : decide (op = 5) = false := by simp; omega
  have a6 : (op == 6) = false := by simp; omega
  have d6 : decide (op = 6) = false := by simp; omega
  have e100 : (c == 100) = false := by simp; omega
  have f100 : decide (c = 100) = false := by simp; omega
  have e200 : (c == 200) = false := by simp; omega
  have f200 : decide (c = 200) = false := by simp; omega
  have e300 : (c == 300) = false := by simp; omega
  have f300 : decide (c = 300) = false := by simp; omega
  have e400 : (c == 400) = false := by simp; omega
  have f400 : decide (c = 400) = false := by simp; omega
  have e500 : (c == 500) = false := by simp; omega
  have f500 : decide (c = 500) = false := by simp; omega
  have e600 : (c == 600) = false := by simp; omega
  have f600 : decide (c = 600) = false := by simp; omega
  have HW := Lib.hid hw
  have HM := Lib.hid hm
  clear hw hm
  go_enter Try.func79, Try.ntmps79
  go_upto_region 13 with (fail)
  try rw [HM.out]
  go_upto_region 14 with (fail)
  try rw [HM.out]
  (try rw [← HM.out, HW.out]); (try rw [HM.out])
  go_wp2_with fail
  go_ret
  exact ⟨rfl, rfl⟩
theorem named7_any (op : Int) (w : World) (hop : -9223372036854775808 ≤ op ∧ op ≤ 9223372036854775807) : Calls Try.prog 79 #[.int .i64 op] w fun e w' => e = .returned (.int .i64 (namedI op)) ∧ w' = w := by
  by_cases h1 : op = 1
  · subst h1; exact named7_1 w
  by_cases h3 : op = 3
  · subst h3; exact named7_3 w
  by_cases h2 : op = 2
  · subst h2; exact named7_2 w
  by_cases h4 : op = 4
  · subst h4; exact named7_4 w
  by_cases h5 : op = 5
  · subst h5; exact named7_5 w
  by_cases h6 : op = 6
  · subst h6; exact named7_6 w
  rw [namedI_k (by omega)]
  obtain ⟨hw, -, -⟩ := tmod100 op hop
  obtain ⟨s, hs⟩ : ∃ s, op.tmod 100 = s := ⟨_, rfl⟩
  rw [hs]
  rw [hs] at hw
  obtain ⟨c, hc⟩ : ∃ c, op - s = c := ⟨_, rfl⟩
  rw [hc] at hw ⊢
  have hw2 : wrap64 (op - op.tmod 100) = c := by rw [hs, hc]; exact hw
  unfold namedK
  by_cases k100 : c = 100
  · subst k100
    rw [if_pos rfl]
    by_cases hl : 5 ≤ s
    · by_cases hh : s ≤ 10
      · rw [if_pos ⟨hl, hh⟩]; exact named7_k100_in op s w h1 h2 h3 h4 h5 h6 hw2 hs ⟨hl, hh⟩
      · rw [if_neg (fun e => hh e.2)]; exact named7_k100_hi op s w h1 h2 h3 h4 h5 h6 hw2 hs ⟨hl, hh⟩
    · rw [if_neg (fun e => hl e.1)]; exact named7_k100_lo op s w h1 h2 h3 h4 h5 h6 hw2 hs hl
  rw [if_neg k100]
  by_cases k200 : c = 200
  · subst k200
    rw [if_pos rfl]
    by_cases hl : 11 ≤ s
    · by_cases hh : s ≤ 15
      · rw [if_pos ⟨hl, hh⟩]; exact named7_k200_in op s w h1 h2 h3 h4 h5 h6 hw2 hs ⟨hl, hh⟩
      · rw [if_neg (fun e => hh e.2)]; exact named7_k200_hi op s w h1 h2 h3 h4 h5 h6 hw2 hs ⟨hl, hh⟩
    · rw [if_neg (fun e => hl e.1)]; exact named7_k200_lo op s w h1 h2 h3 h4 h5 h6 hw2 hs hl
  rw [if_neg k200]
  by_cases k300 : c = 300
  · subst k300
    rw [if_pos rfl]
    by_cases hl : 16 ≤ s
    · by_cases hh : s ≤ 18
      · rw [if_pos ⟨hl, hh⟩]; exact named7_k300_in op s w h1 h2 h3 h4 h5 h6 hw2 hs ⟨hl, hh⟩
      · rw [if_neg (fun e => hh e.2)]; exact named7_k300_hi op s w h1 h2 h3 h4 h5 h6 hw2 hs ⟨hl, hh⟩
    · rw [if_neg (fun e => hl e.1)]; exact named7_k300_lo op s w h1 h2 h3 h4 h5 h6 hw2 hs hl
  rw [if_neg k300]
  by_cases k400 : c = 400
  · subst k400
    rw [if_pos rfl]
    by_cases hl : 28 ≤ s
    · by_cases hh : s ≤ 45
      · rw [if_pos ⟨hl, hh⟩]; exact named7_k400_in op s w h1 h2 h3 h4 h5 h6 hw2 hs ⟨hl, hh⟩
      · rw [if_neg (fun e => hh e.2)]; exact named7_k400_hi op s w h1 h2 h3 h4 h5 h6 hw2 hs ⟨hl, hh⟩
    · rw [if_neg (fun e => hl e.1)]; exact named7_k400_lo op s w h1 h2 h3 h4 h5 h6 hw2 hs hl
  rw [if_neg k400]
  by_cases k500 : c = 500
  · subst k500
    rw [if_pos rfl]
    by_cases hl : 28 ≤ s
    · by_cases hh : s ≤ 45
      · rw [if_pos ⟨hl, hh⟩]; exact named7_k500_in op s w h1 h2 h3 h4 h5 h6 hw2 hs ⟨hl, hh⟩
      · rw [if_neg (fun e => hh e.2)]; exact named7_k500_hi op s w h1 h2 h3 h4 h5 h6 hw2 hs ⟨hl, hh⟩
    · rw [if_neg (fun e => hl e.1)]; exact named7_k500_lo op s w h1 h2 h3 h4 h5 h6 hw2 hs hl
  rw [if_neg k500]
  by_cases k600 : c = 600
  · subst k600
    rw [if_pos rfl]
    by_cases hl : 46 ≤ s
    · by_cases hh : s ≤ 56
      · rw [if_pos ⟨hl, hh⟩]; exact named7_k600_in op s w h1 h2 h3 h4 h5 h6 hw2 hs ⟨hl, hh⟩
      · rw [if_neg (fun e => hh e.2)]; exact named7_k600_hi op s w h1 h2 h3 h4 h5 h6 hw2 hs ⟨hl, hh⟩
    · rw [if_neg (fun e => hl e.1)]; exact named7_k600_lo op s w h1 h2 h3 h4 h5 h6 hw2 hs hl
  rw [if_neg k600]
  exact named7_k0_no op s c w h1 h2 h3 h4 h5 h6 hw2 hs k100 k200 k300 k400 k500 k600
end Go.Proofs.Ytlfnddmncbkjaab.W
