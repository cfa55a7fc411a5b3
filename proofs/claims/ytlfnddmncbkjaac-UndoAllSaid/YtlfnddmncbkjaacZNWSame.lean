import Derived.Test.YtlfnddmncbkjaacZMA
import Derived.Test.YtlfnddmncbkjaacZHB
set_option linter.unusedVariables false
set_option linter.unusedSimpArgs false
set_option maxRecDepth 100000
set_option maxHeartbeats 4000000
namespace Go.Proofs.Ytlfnddmncbkjaac.W
open Go.RowKit Fb
theorem machines12 (vm vh vm' vh' : Value) (m : Mach) (w : World) (wf : m.Wf) (hm : MachAt w vm vh m) (hm' : MachAt w vm' vh' m) :
    Calls Try.prog 20 #[.agg #[vm, vh], .agg #[vm', vh']] w fun e w' => e = .returned (.bool true) ∧ Below w.heap.size w w' := by
  obtain ⟨aom, capm, rfl, _⟩ := hm.1.open
  obtain ⟨aoh, caph, rfl, _⟩ := hm.2.open (fun h hh => hlist_length (wf.harts h hh)) (by omega)
  obtain ⟨aom', capm', rfl, _⟩ := hm'.1.open
  obtain ⟨aoh', caph', rfl, _⟩ := hm'.2.open (fun h hh => hlist_length (wf.harts h hh)) (by omega)
  have HM := Lib.hid hm
  have HM' := Lib.hid hm'
  clear hm hm'
  go_enter Try.func20, Try.ntmps20
  go_wp2_with fail
  refine (same5 _ _ _ _ _ _ m [] 0 _ wf (HM.out.below (by go_grown)) (HM'.out.below (by go_grown)) (Sl.nil _ _) (Sl.nil _ _)).mono ?_
  rintro e w1 ⟨rfl, hb1⟩
  have hb2 : Below w.heap.size w w1 := Below.trans (by go_grown) (hb1.mono (by simp; omega))
  clear hb1
  go_wp2
  go_ret
  exact ⟨rfl, hb2⟩
end Go.Proofs.Ytlfnddmncbkjaac.W
