/- ImageOne: for every two machines with the same bytes: they are the same. No condition. -/
import Derived.Test.YtlfnddmncbkjaaaWPut
import Derived.Test.YtlfnddmncbkjaaaFbInj
import Derived.Test.YtlfnddmncbkjaaaWSame
import Derived.Test.YtlfnddmncbkjaaaOpenMach
namespace Go.Proofs.Ytlfnddmncbkjaaa.ImageOneLaw
set_option linter.unusedVariables false
set_option linter.unusedSimpArgs false
open Go.RowKit Fb W
set_option maxRecDepth 100000 in
set_option maxHeartbeats 400000 in
theorem walk (vm vh vm' vh' : Value) (m m' : Mach) (w : World) (hm : MachAt w vm vh m) (hm' : MachAt w vm' vh' m') (wf : m.Wf) (wf' : m'.Wf) :
    Calls Try.prog 4 #[.agg #[vm, vh], .agg #[vm', vh']] w fun e w' => e = .returned (.bool true) ∧ Below w.heap.size w w' := by
  obtain ⟨aom, capm, rfl, _⟩ := hm.1.open
  obtain ⟨aoh, caph, rfl, _⟩ := hm.2.open (fun h hh => hlist_length (wf.harts h hh)) (by omega)
  obtain ⟨aom', capm', rfl, _⟩ := hm'.1.open
  obtain ⟨aoh', caph', rfl, _⟩ := hm'.2.open (fun h hh => hlist_length (wf'.harts h hh)) (by omega)
  have HM := Lib.hid hm
  have HM' := Lib.hid hm'
  clear hm hm'
  go_enter Try.func4, Try.ntmps4
  go_wp2_with fail
  have hb0 : Below w.heap.size w ((w.alloc (.cells #[.slice aom m.mem.length capm, .slice aoh m.harts.length caph] 25)).alloc (.cells #[.slice aom' m'.mem.length capm', .slice aoh' m'.harts.length caph'] 25)) := by go_grown
  have c0 : ((w.alloc (.cells #[.slice aom m.mem.length capm, .slice aoh m.harts.length caph] 25)).alloc (.cells #[.slice aom' m'.mem.length capm', .slice aoh' m'.harts.length caph'] 25)).cell? ⟨w.heap.size, 0, none⟩ = some (.slice aom m.mem.length capm) := by go_cell
  have c1 : ((w.alloc (.cells #[.slice aom m.mem.length capm, .slice aoh m.harts.length caph] 25)).alloc (.cells #[.slice aom' m'.mem.length capm', .slice aoh' m'.harts.length caph'] 25)).cell? ⟨w.heap.size, 1, none⟩ = some (.slice aoh m.harts.length caph) := by go_cell
  have d0 : ((w.alloc (.cells #[.slice aom m.mem.length capm, .slice aoh m.harts.length caph] 25)).alloc (.cells #[.slice aom' m'.mem.length capm', .slice aoh' m'.harts.length caph'] 25)).cell? ⟨w.heap.size + 1, 0, none⟩ = some (.slice aom' m'.mem.length capm') := by go_cell
  have d1 : ((w.alloc (.cells #[.slice aom m.mem.length capm, .slice aoh m.harts.length caph] 25)).alloc (.cells #[.slice aom' m'.mem.length capm', .slice aoh' m'.harts.length caph'] 25)).cell? ⟨w.heap.size + 1, 1, none⟩ = some (.slice aoh' m'.harts.length caph') := by go_cell
  have hs0 : ((w.alloc (.cells #[.slice aom m.mem.length capm, .slice aoh m.harts.length caph] 25)).alloc (.cells #[.slice aom' m'.mem.length capm', .slice aoh' m'.harts.length caph'] 25)).heap.size = w.heap.size + 2 := by simp
  generalize (w.alloc (.cells #[.slice aom m.mem.length capm, .slice aoh m.harts.length caph] 25)).alloc (.cells #[.slice aom' m'.mem.length capm', .slice aoh' m'.harts.length caph'] 25) = w0 at *
  refine (put_any _ _ m wf _ (HM.out.below hb0)).mono ?_
  rintro e w1 ⟨⟨v, rfl, hv⟩, hb1⟩
  have HV := Lib.hid hv
  have c0' := (hb1.cell (p := ⟨w.heap.size, 0, none⟩) (by show w.heap.size < _; omega)).trans c0
  have c1' := (hb1.cell (p := ⟨w.heap.size, 1, none⟩) (by show w.heap.size < _; omega)).trans c1
  have d0' := (hb1.cell (p := ⟨w.heap.size + 1, 0, none⟩) (by show w.heap.size + 1 < _; omega)).trans d0
  have d1' := (hb1.cell (p := ⟨w.heap.size + 1, 1, none⟩) (by show w.heap.size + 1 < _; omega)).trans d1
  have hb2 := hb0.trans (hb1.mono (by omega))
  have hs1 : w.heap.size + 2 ≤ w1.heap.size := by have := hb1.size; omega
  clear hv c0 c1 d0 d1 hs0 hb1 hb0
  go_wp2_with fail
  refine (put_any _ _ m' wf' _ (HM'.out.below hb2)).mono ?_
  rintro e w2 ⟨⟨v', rfl, hv'⟩, hb3⟩
  have HV2 := Lib.hid (HV.out.below hb3)
  have HV' := Lib.hid hv'
  have c0 := (hb3.cell (p := ⟨w.heap.size, 0, none⟩) (by show w.heap.size < _; omega)).trans c0'
  have c1 := (hb3.cell (p := ⟨w.heap.size, 1, none⟩) (by show w.heap.size < _; omega)).trans c1'
  have d0 := (hb3.cell (p := ⟨w.heap.size + 1, 0, none⟩) (by show w.heap.size + 1 < _; omega)).trans d0'
  have d1 := (hb3.cell (p := ⟨w.heap.size + 1, 1, none⟩) (by show w.heap.size + 1 < _; omega)).trans d1'
  have hb4 := hb2.trans (hb3.mono (by omega))
  clear hv' c0' c1' d0' d1' hb2 hb3 hs1
  rcases wrong_nil m with hw | hw
  rotate_left
  · rw [hw]
    clear hw
    go_wp2
    go_ret
    exact ⟨rfl, hb4⟩
  rcases wrong_nil m' with hw' | hw'
  rotate_left
  · rw [hw, hw']
    clear hw hw'
    go_wp2
    go_ret
    exact ⟨rfl, hb4⟩
  rw [hw] at HV2 ⊢
  rw [hw'] at HV' ⊢
  have HV3 : Hid (Ints .u8 w2 v (mbytes m)) := HV2
  have HV3' : Hid (Ints .u8 w2 v' (mbytes m')) := HV'
  clear HV2 HV'
  have hq := conv_any (P := Try.prog) w2 v (mbytes m) _ _ _ Try.underlying22 Try.underlying5 Try.underlying9 HV3.out
  have hq' := conv_any (P := Try.prog) w2 v' (mbytes m') _ _ _ Try.underlying22 Try.underlying5 Try.underlying9 HV3'.out
  have HINJ := Lib.hid (fun e => mbytes_inj wf wf' hw hw' (strOf_inj (mbytes_bytes wf) (mbytes_bytes wf') e))
  have hpos := mbytes_pos wf
  obtain ⟨_, _, rfl, _⟩ := HV3.out.open
  obtain ⟨_, _, rfl, _⟩ := HV3'.out.open
  clear hw hw'
  by_cases he : strOfNums (mbytes m) = strOfNums (mbytes m')
  · obtain rfl := HINJ.out he
    clear he HINJ
    go_wp2_with fail
    refine (machines12 _ _ _ _ m w2 wf (HM.out.below hb4) (HM'.out.below hb4)).mono ?_
    rintro e w3 ⟨rfl, hb5⟩
    have hb6 := hb4.trans (hb5.mono hb4.size)
    clear hb5
    go_wp2
    go_ret
    exact ⟨rfl, hb6⟩
  · have ht : ((strOfNums (mbytes m)).toList == (strOfNums (mbytes m')).toList) = false := by
      refine beq_eq_false_iff_ne.2 fun e => he ?_
      rw [ByteArray.toList_eq, ByteArray.toList_eq] at e
      exact ByteArray.ext (Array.toList_inj.mp e)
    clear he HINJ
    go_wp2_with fail
    go_ret
    exact ⟨rfl, hb4⟩
open RowB in
set_option maxRecDepth 100000 in
theorem lifted (os : Os) (started : os.Started) (H : Type) (enc : TypeId × Value → H) :
    ReturnsInHanded {} Try.checked os 4 .any (Rows.imageOneSpec.pre6 enc Try.prog Try.f4 Rows.imageOneRow.domain false) (Rows.imageOneSpec.post enc Try.prog Try.f4 false true false false) := by
  refine RowB.law_lifted (C := Try.checked) (tb := 4) (by kernel_rfl) started (by kernel_rfl) (by kernel_rfl)
    (ChangeSpec.witness6 (enc := enc) (C := Try.checked) false ⟨#[], #[.agg #[.slice none 0 0, .slice none 0 0], .agg #[.slice none 0 0, .slice none 0 0]], []⟩ 8 (by kernel_rfl) (by kernel_rfl) (by kernel_rfl) (by kernel_rfl))
    rfl (fun ds h => by match ds, h with | [_, _], _ => rfl) (by kernel_rfl) (by kernel_rfl) (by kernel_rfl) (of_decide_eq_true (by kernel_rfl)) ?_
  intro W base args ds ps hval hA _ hz
  have hp : (Try.f4).params.toList = [25, 25] := by kernel_rfl
  rw [hp] at hA hz
  obtain ⟨v0, vs0, d0, ds0, p0, q0, hargs, rfl, rfl, h0, r0⟩ := ChangeShapes.trodAll_cons hA
  obtain ⟨v1, vs1, d1, ds1, p1, q1, rfl, rfl, rfl, h1, r1⟩ := ChangeShapes.trodAll_cons r0
  obtain ⟨rfl, rfl, rfl⟩ := ChangeShapes.trodAll_nil r1
  obtain rfl : args = #[v0, v1] := by cases args; simp_all
  obtain ⟨z0, y0⟩ := weights_cons hz
  obtain ⟨z1, y1⟩ := weights_cons y0
  have k0 := hval 0 25 v0 (by kernel_rfl) rfl
  have k1 := hval 1 25 v1 (by kernel_rfl) rfl
  obtain ⟨⟨vm, vh, m⟩, rfl, hm, wf, _, _⟩ := opens_machine.arg Try.underlying25 k0 h0 z0
  obtain ⟨⟨vm', vh', m'⟩, rfl, hm', wf', _, _⟩ := opens_machine.arg Try.underlying25 k1 h1 z1
  exact walk vm vh vm' vh' m m' W hm hm' wf wf'
/-- THE STATEMENT -/
theorem proved : Rows.ImageOneSaid :=
  OpenClaim.holds_of_wide 4 Try.f4 rfl rfl rfl rfl rfl rfl rfl ⟨rfl, rfl, rfl, rfl, rfl⟩ rfl rfl rfl rfl rfl (by kernel_rfl) Try.func4 (by kernel_rfl)
    (of_decide_eq_true (by kernel_rfl)) (by unfold Func.isWrapper; first | (rw [if_pos (by decide +kernel)]; kernel_rfl) | (rw [if_neg (by decide +kernel)]; exact ⟨rfl, rfl⟩))
    (fun os started H enc _ => lifted os started H enc)
#print axioms proved
end Go.Proofs.Ytlfnddmncbkjaaa.ImageOneLaw
