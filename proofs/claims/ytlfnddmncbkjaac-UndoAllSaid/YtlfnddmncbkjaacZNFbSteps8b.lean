import Derived.Test.YtlfnddmncbkjaacZGB
import Derived.Test.YtlfnddmncbkjaacZMB
set_option linter.unusedVariables false
set_option linter.unusedSimpArgs false
set_option maxRecDepth 100000
set_option maxHeartbeats 4000000
namespace Go.Proofs.Ytlfnddmncbkjaac.Fb
open Go.RowKit
def Mem8 (m : List Int) (c : CoreD) : Prop := c.m = m ∨ ∃ op a x, mStoreOk m op a = true ∧ 0 ≤ a ∧ c.m = mStore m op a x ∧ c.fr = a ∧ c.tw = (a + msize op) % 4294967296
theorem put_mem8 (d : CoreD) (op a x : Int) (ha : 0 ≤ a) : Mem8 d.m (d.put op a x) := by
  unfold CoreD.put
  by_cases c : mStoreOk d.m op a = true
  · rw [if_pos c]; exact .inr ⟨op, a, x, c, ha, rfl, rfl, rfl⟩
  · rw [if_neg c]; exact .inl rfl
theorem ite_mem8 {m : List Int} {c : Prop} [Decidable c] {a b : CoreD} (h1 : c → Mem8 m a) (h2 : ¬ c → Mem8 m b) : Mem8 m (if c then a else b) := by split; exact h1 ‹_›; exact h2 ‹_›
theorem atomS_mem8 (d : CoreD) (op a b : Int) (ha : 0 ≤ a) : Mem8 d.m (atomS d op a b).1 := by
  unfold atomS
  split
  · split
    · exact .inl rfl
    · split
      · split
        · exact put_mem8 d 18 a b ha
        · exact .inl rfl
      · exact put_mem8 d 18 a _ ha
  · exact .inl rfl
theorem callS_m (d : CoreD) : (callS d).1.m = d.m := by
  unfold callS
  split
  · rfl
  · split <;> rfl
theorem doS_mem8 (d : CoreD) (hr : ∀ k, 0 ≤ d.h.reg k) (i : InsD) : Mem8 d.m (doS i d) := by
  unfold doS
  dsimp only
  repeat' (with_reducible refine ite_mem8 (fun _ => ?_) (fun _ => ?_))
  all_goals first
    | exact .inl rfl
    | exact put_mem8 d i.op _ _ (Int.emod_nonneg _ (by decide))
    | exact atomS_mem8 d i.op (d.h.reg i.rs1) (d.h.reg i.rs2) (hr _)
    | exact .inl (callS_m d)
end Go.Proofs.Ytlfnddmncbkjaac.Fb
