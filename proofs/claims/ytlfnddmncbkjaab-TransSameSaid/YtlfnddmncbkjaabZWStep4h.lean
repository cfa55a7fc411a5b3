import Derived.Test.YtlfnddmncbkjaabZZH
set_option linter.unusedVariables false
set_option linter.unusedSimpArgs false
set_option maxRecDepth 100000
set_option maxHeartbeats 4000000
namespace Go.Proofs.Ytlfnddmncbkjaab.Fb
theorem atomS_out (c : CoreD) (op a b : Int) : (atomS c op a b).1.out = c.out := by
  unfold atomS
  split
  · split
    · rfl
    · split
      · split
        · show (c.put 18 a b).out = c.out; exact CoreD.put_out _ _ _ _
        · rfl
      · exact CoreD.put_out _ _ _ _
  · rfl
def atomR (c : CoreD) (op a b : Int) (kd : Int) : CoreD := if (atomS c op a b).2.2 = true then (atomS c op a b).1.set kd (atomS c op a b).2.1 else (atomS c op a b).1
theorem atomR_out (c : CoreD) (op a b kd : Int) : (atomR c op a b kd).out = c.out := by
  unfold atomR
  split
  · exact atomS_out c op a b
  · exact atomS_out c op a b
theorem atomR_wf {c : CoreD} (wf : c.Wf) (op a b kd : Int) (ha : U32 a) (hb : U32 b) : (atomR c op a b kd).Wf := by
  unfold atomR
  split
  · exact (atomS_wf wf op a b ha hb).1.set _ _ (atomS_wf wf op a b ha hb).2
  · exact (atomS_wf wf op a b ha hb).1
end Go.Proofs.Ytlfnddmncbkjaab.Fb
namespace Go.Proofs.Ytlfnddmncbkjaab.W
open Go.RowKit Fb
theorem atom4_any (d : DidD) (c : CoreD) (w : World) (hc : DidOf w d c) (wf : c.Wf) (hl : c.m.length ≤ 4096) (op : Int) (kd k1 k2 : Nat) (imm : Int) (hop : 46 ≤ op ∧ op ≤ 56) (hk : kd < 32) (a b : Int) (ha : U32 a) (hb' : U32 b) :
    Calls Try.prog 92 #[.agg (dcells d), .agg #[.int .i64 op, .int .i64 kd, .int .i64 k1, .int .i64 k2, .int .i32 imm], .int .u32 a, .int .u32 b] w fun e w' => ∃ d', e = .returned (.tuple #[.agg (dcells d'), .bool (atomS c op a b).2.2]) ∧ DidOf w' d' (atomR c op a b kd) ∧ (d'.vm = d.vm ∨ ∀ q, d'.vm.ownBlock = some q → w.heap.size ≤ q) ∧ d'.vo = d.vo ∧ Below w.heap.size w w' := by
  cases hq : mLoadOk c.m 13 a with
  | false =>
    by_cases h46 : op = 46
    · subst h46
      have e : atomS c 46 a b = (c.trap 3, 0, false) := by unfold atomS; rw [hq]; rfl
      unfold atomR
      rw [e]
      exact atom4_lr_no d c w hc wf hl kd k1 k2 imm hk a b ha hb' hq
    · have e : atomS c op a b = (c.trap 4, 0, false) := by unfold atomS; rw [hq, if_neg (by decide), if_neg h46]
      unfold atomR
      rw [e]
      exact atom4_no d c w hc wf hl op kd k1 k2 imm (by omega) hk a b ha hb' hq
  | true =>
    by_cases h46 : op = 46
    · subst h46
      have e : atomS c 46 a b = (c.hold true a, mLoad c.m 13 a, true) := by unfold atomS; rw [hq]; rfl
      unfold atomR
      rw [e]
      exact atom4_lr d c w hc wf hl kd k1 k2 imm hk a b ha hb' hq
    · by_cases h47 : op = 47
      · subst h47
        by_cases hm : (c.h.held && c.h.heldAt == a) = true
        · have e : atomS c 47 a b = ((c.put 18 a b).hold false 0, 0, true) := by unfold atomS; rw [hq, if_pos rfl, if_neg (by omega), if_pos rfl, if_pos hm]
          unfold atomR
          rw [e]
          rw [Bool.and_eq_true, beq_iff_eq] at hm
          exact atom4_sc d c w hc wf hl kd k1 k2 imm hk a b ha hb' hq hm.1 hm.2
        · have e : atomS c 47 a b = (c.hold false 0, 1, true) := by unfold atomS; rw [hq, if_pos rfl, if_neg (by omega), if_pos rfl, if_neg hm]
          unfold atomR
          rw [e]
          refine atom4_sc_no d c w hc wf hl kd k1 k2 imm hk a b ha hb' hq ?_
          cases hh : c.h.held with
          | false => exact .inl rfl
          | true => exact .inr ⟨rfl, fun e => hm (by rw [hh, e]; simp)⟩
      · have e : atomS c op a b = (c.put 18 a (amo op (mLoad c.m 13 a) b), mLoad c.m 13 a, true) := by unfold atomS; rw [hq, if_pos rfl, if_neg h46, if_neg h47]
        unfold atomR
        rw [e]
        exact atom4_op d c w hc wf hl op kd k1 k2 imm (by omega) hk a b ha hb' hq
end Go.Proofs.Ytlfnddmncbkjaab.W
