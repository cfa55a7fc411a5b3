import Derived.Test.YtlfnddmncbkjaaaZMA
set_option linter.unusedVariables false
set_option linter.unusedSimpArgs false
set_option maxRecDepth 100000
set_option maxHeartbeats 4000000
namespace Go.Proofs.Ytlfnddmncbkjaaa.W
open Go.RowKit Fb
theorem bytes4_any (v v' : Value) (l l' : List Int) (w : World) (hv : Ints .u8 w v l) (hv' : Ints .u8 w v' l') (hb : Bytes l) (hb' : Bytes l') :
    Calls Try.prog 22 #[v, v'] w fun e w' => e = .returned (.bool (decide (l = l'))) ∧ w = w' := by
  have h1 := conv_any (P := Try.prog) w v l 22 5 9 Try.underlying22 Try.underlying5 Try.underlying9 hv
  have h2 := conv_any (P := Try.prog) w v' l' 22 5 9 Try.underlying22 Try.underlying5 Try.underlying9 hv'
  clear hv hv'
  go_enter Try.func22, Try.ntmps22
  go_wp2
  go_ret
  refine ⟨ret_bool ?_, rfl⟩
  by_cases e : l = l'
  · subst e; simp
  · rw [decide_eq_false e]
    refine beq_eq_false_iff_ne.2 fun h => e (strOf_inj hb hb' ?_)
    rw [ByteArray.toList_eq, ByteArray.toList_eq] at h
    exact ByteArray.ext (Array.toList_inj.mp h)
end Go.Proofs.Ytlfnddmncbkjaaa.W
