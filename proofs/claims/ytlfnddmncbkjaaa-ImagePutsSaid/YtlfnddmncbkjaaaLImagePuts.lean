/- ImagePuts: for every machine, such as may not be among them, the program tells its bytes, or what is wrong, as the document's answer does. No condition. -/
import Derived.Test.YtlfnddmncbkjaaaWPut
import Derived.Test.YtlfnddmncbkjaaaWWrong
import Derived.Test.YtlfnddmncbkjaaaWBytes13
import Derived.Test.YtlfnddmncbkjaaaOpenMach
namespace Go.Proofs.Ytlfnddmncbkjaaa.ImagePutsLaw
set_option linter.unusedVariables false
set_option linter.unusedSimpArgs false
open Go.RowKit Fb W
theorem bytes13_keep (w0 W : World) (vm vh : Value) (m : Mach) (wf : m.Wf) (h : Below w0.heap.size w0 W) (hm : MachAt w0 vm vh m) (hw : wrong m [] = 0) :
    Calls Try.prog 16 #[.agg #[vm, vh]] W fun e w' => e = .returned (.string (strOfNums (mbytes m))) ∧ Below w0.heap.size w0 w' :=
  (bytes13_any vm vh m wf W (hm.below h) hw).mono fun _ _ ⟨h1, h2⟩ => ⟨h1, h.trans (h2.mono h.size)⟩
set_option maxHeartbeats 400000 in
theorem walk (vm vh : Value) (m : Mach) (w : World) (hm : MachAt w vm vh m) (wf : m.Wf) :
    Calls Try.prog 3 #[.agg #[vm, vh]] w fun e w' => e = .returned (.bool true) ∧ Below w.heap.size w w' := by
  have HM := Lib.hid hm
  clear hm
  obtain ⟨aom, capm, rfl, _⟩ := HM.out.1.open
  obtain ⟨aoh, caph, rfl, _⟩ := HM.out.2.open (fun h hh => hlist_length (wf.harts h hh)) (by omega)
  have hb0 : Below w.heap.size w (w.alloc (.cells #[.slice aom m.mem.length capm, .slice aoh m.harts.length caph] 25)) := by go_grown
  have c0 : (w.alloc (.cells #[.slice aom m.mem.length capm, .slice aoh m.harts.length caph] 25)).cell? ⟨w.heap.size, 0, none⟩ = some (.slice aom m.mem.length capm) := by go_cell
  have c1 : (w.alloc (.cells #[.slice aom m.mem.length capm, .slice aoh m.harts.length caph] 25)).cell? ⟨w.heap.size, 1, none⟩ = some (.slice aoh m.harts.length caph) := by go_cell
  have hs0 : (w.alloc (.cells #[.slice aom m.mem.length capm, .slice aoh m.harts.length caph] 25)).heap.size = w.heap.size + 1 := by simp
  go_enter Try.func3, Try.ntmps3
  go_wp2_with fail
  generalize w.alloc (.cells #[.slice aom m.mem.length capm, .slice aoh m.harts.length caph] 25) = w0 at *
  have hlt0 : w.heap.size < w0.heap.size := by omega
  have HM0 := Lib.hid (HM.out.below hb0)
  refine (put_any _ _ m wf _ HM0.out).mono ?_
  rintro e w1 ⟨⟨v, rfl, hv⟩, hb1⟩
  have HV := Lib.hid hv
  have HM1 := Lib.hid (HM0.out.below hb1)
  have d0 := (hb1.cell (p := ⟨w.heap.size, 0, none⟩) hlt0).trans c0
  have d1 := (hb1.cell (p := ⟨w.heap.size, 1, none⟩) hlt0).trans c1
  have HB1 := Lib.hid hb1
  have hlt1 : w.heap.size < w1.heap.size := by have := hb1.size; omega
  have hb2 := hb0.trans (hb1.mono (by omega))
  clear hv hb1 c0 c1 hs0 hb0
  go_wp2_with fail
  refine (wrong_any _ _ _ m wf [] _ HM1.out (Sl.nil _ _) (by simp)).mono ?_
  rintro e w2 ⟨rfl, hb3⟩
  have e0 := (hb3.cell (p := ⟨w.heap.size, 0, none⟩) hlt1).trans d0
  have e1 := (hb3.cell (p := ⟨w.heap.size, 1, none⟩) hlt1).trans d1
  have HV2 := Lib.hid (HV.out.below hb3)
  have HM2 := Lib.hid (HM1.out.below hb3)
  have hb4 := hb2.trans (hb3.mono (by omega))
  clear hb3 d0 d1 hb2
  rcases wrong_nil m with hw | hw
  · rw [hw] at HV2 ⊢
    have HV3 : Hid (Ints .u8 w2 v (mbytes m)) := HV2
    clear HV2
    have hconv := fun (W : World) (hW : Below w2.heap.size w2 W) => conv_any (P := Try.prog) W v (mbytes m) _ _ _ Try.underlying22 Try.underlying5 Try.underlying9 (HV3.out.below hW)
    obtain ⟨aov, capv, rfl, _⟩ := HV3.out.open
    have HC := Lib.hid hconv
    have hc0 := hconv w2 (Below.refl _ _)
    have hc1 := hconv w2.drew (Below.refl _ _).drew
    have HW := Lib.hid hw
    have hbK : Below w2.heap.size w2 w2 := Below.refl _ _
    have hlt2 : w.heap.size < w2.heap.size := by have := lt_of_cell e0; simpa using this
    have E0 := Lib.hid e0
    have E1 := Lib.hid e1
    clear hconv hw
    go_wp2_with fail
    go_region_held3 (fun w' => Below w2.heap.size w2 w' ∧ w'.cell? ⟨w.heap.size, 0, none⟩ = some (.slice aom m.mem.length capm) ∧ w'.cell? ⟨w.heap.size, 1, none⟩ = some (.slice aoh m.harts.length caph) ∧ (convert 22 9 (.slice aov (mbytes m).length capv)).run Try.prog w' = .ok (.string (strOfNums (mbytes m))) w')
      (first | exact ⟨hbK, (hbK.cell (p := ⟨w.heap.size, 0, none⟩) hlt2).trans E0.out, (hbK.cell (p := ⟨w.heap.size, 1, none⟩) hlt2).trans E1.out, HC.out _ hbK⟩ | exact ⟨hbK.drew, (hbK.cell (p := ⟨w.heap.size, 0, none⟩) hlt2).trans E0.out, (hbK.cell (p := ⟨w.heap.size, 1, none⟩) hlt2).trans E1.out, HC.out _ hbK.drew⟩ | (go_keep; done))
      ((go_at_call 16; refine (bytes13_keep w2 _ _ _ m wf ?h1 HM2.out HW.out).mono ?_; (case h1 => first | exact hbK | exact hbK.drew); rintro e w3 ⟨rfl, hbK⟩; have hc2 := HC.out w3 hbK))
    all_goals
      go_wp2_with fail
      go_ret
      refine ⟨?_, hb4.trans (hbK.mono (by omega))⟩
      simp
  · rw [hw] at HV2 ⊢
    have HV3 : Hid (Ints .u8 w2 v []) := HV2
    obtain ⟨aov, capv, rfl, _⟩ := HV3.out.open
    clear hw
    go_wp2_with fail
    go_ret
    exact ⟨rfl, hb4⟩
open RowB in
set_option maxRecDepth 100000 in
theorem lifted (os : Os) (started : os.Started) (H : Type) (enc : TypeId × Value → H) :
    ReturnsInHanded {} Try.checked os 3 .any (Rows.imagePutsSpec.pre6 enc Try.prog Try.f3 Rows.imagePutsRow.domain false) (Rows.imagePutsSpec.post enc Try.prog Try.f3 false true false false) := by
  refine RowB.law_lifted (C := Try.checked) (tb := 4) (by kernel_rfl) started (by kernel_rfl) (by kernel_rfl)
    (ChangeSpec.witness6 (enc := enc) (C := Try.checked) false ⟨#[], #[.agg #[.slice none 0 0, .slice none 0 0]], []⟩ 8 (by kernel_rfl) (by kernel_rfl) (by kernel_rfl) (by kernel_rfl))
    rfl (fun ds h => by match ds, h with | [_], _ => rfl) (by kernel_rfl) (by kernel_rfl) (by kernel_rfl) (of_decide_eq_true (by kernel_rfl)) ?_
  intro W base args ds ps hval hA _ hz
  have hp : (Try.f3).params.toList = [25] := by kernel_rfl
  rw [hp] at hA hz
  obtain ⟨v0, vs0, d0, ds0, p0, q0, hargs, rfl, rfl, h0, r0⟩ := ChangeShapes.trodAll_cons hA
  obtain ⟨rfl, rfl, rfl⟩ := ChangeShapes.trodAll_nil r0
  obtain rfl : args = #[v0] := by cases args; simp_all
  obtain ⟨z0, y0⟩ := weights_cons hz
  have k0 := hval 0 25 v0 (by kernel_rfl) rfl
  obtain ⟨⟨vm, vh, m⟩, rfl, hm, wf, _, _⟩ := opens_machine.arg Try.underlying25 k0 h0 z0
  exact walk vm vh m W hm wf
/-- THE STATEMENT -/
theorem proved : Rows.ImagePutsSaid :=
  OpenClaim.holds_of_wide 3 Try.f3 rfl rfl rfl rfl rfl rfl rfl ⟨rfl, rfl, rfl, rfl, rfl⟩ rfl rfl rfl rfl rfl (by kernel_rfl) Try.func3 (by kernel_rfl)
    (of_decide_eq_true (by kernel_rfl)) (by unfold Func.isWrapper; first | (rw [if_pos (by decide +kernel)]; kernel_rfl) | (rw [if_neg (by decide +kernel)]; exact ⟨rfl, rfl⟩))
    (fun os started H enc _ => lifted os started H enc)
#print axioms proved
end Go.Proofs.Ytlfnddmncbkjaaa.ImagePutsLaw
