/- An error's variable out of what is listed. -/
import Derived.Test.YtlfnddmncbkjaacDoorZZC
import Derived.Test.YtlfnddmncbkjaacDoorZRowLaid
namespace Go.Proofs.YtlfnddmncbkjaacDoor.W
set_option linter.unusedVariables false
set_option linter.unusedSimpArgs false
open Go.RowKit Fb
theorem errAt_var {W : World} {n : String} {g : Nat} {t : TypeId} {p : Value} (hg : Tryd.prog.globalNamed n = some g) (h : W.var? Tryd.prog n = some #[.iface t p]) : ErrAt W.heap.size W n := by
  refine ⟨t, p, fun W' hb => ?_⟩
  rw [← h]
  unfold World.var?
  rw [hg]
  have hlt : g < W.heap.size := by
    unfold World.var? at h
    rw [hg] at h
    rcases Nat.lt_or_ge g W.heap.size with h' | h'
    · exact h'
    · simp [Array.getElem?_eq_none h'] at h
  simp only [Option.bind_some]
  rw [hb.block g hlt]
theorem ptr_row (u : TypeId) (h : Tryd.prog.typeName? 3 u = some "*errors.errorString") : u = 141 :=
  typeName_ptr_named (nm := "errors.errorString") (by rw [show "*" ++ "errors.errorString" = "*errors.errorString" by decide]; kernel_rfl) (by kernel_rfl) (by decide) u (by rw [show "*" ++ "errors.errorString" = "*errors.errorString" by decide]; exact h)
theorem errAt_laid {n : String} {text : List UInt8} {r : List (String × DataW Unit)} {W : World} {g : Nat}
    (h : laidMet Tryd.prog ((n, .iface "*errors.errorString" (.ptr (.agg [.lit (.string text)]))) :: r) W)
    (hg : Tryd.prog.globalNamed n = some g) (ht : (Tryd.prog.globals[g]?).map (·.type) = some 78) : ErrAt W.heap.size W n := by
  obtain ⟨a, s, hv, -⟩ := laid_sentinel h hg ht Tryd.underlying78 ptr_row Tryd.underlying141 Tryd.underlying143 rfl rfl Tryd.underlying9 (by kernel_rfl) (by kernel_rfl)
  exact errAt_var hg hv
end Go.Proofs.YtlfnddmncbkjaacDoor.W
