import Derived.Test.YtlfnddmncbkjaaaZWBack4
import Derived.Test.YtlfnddmncbkjaaaZWBack12b
import Derived.Test.YtlfnddmncbkjaaaZMB
import Derived.Test.YtlfnddmncbkjaaaZWSame
import Derived.Test.YtlfnddmncbkjaaaZOpenUndo
set_option linter.unusedVariables false
set_option linter.unusedSimpArgs false
set_option maxRecDepth 100000
set_option maxHeartbeats 4000000
namespace Go.Proofs.Ytlfnddmncbkjaaa.UndoBacksLaw
open Go.RowKit Fb W
theorem walk (vm vh v : Value) (m : Mach) (us : List UndD) (steps : Int) (w : World) (hm : MachAt w vm vh m) (wf : m.Wf) (hu : UR w v us) (hst : i64ok steps) (hul : us.length ≤ 140737488355328) (hbn : ∀ x ∈ us, x.d.bytes.length ≤ 140737488355328 ∧ x.d.lost.length ≤ 140737488355328) :
    Calls Try.prog 9 #[.agg #[vm, vh], v, .int .i64 steps] w fun e w' => e = .returned (.bool true) ∧ Below w.heap.size w w' := by
  obtain ⟨aom, capm, rfl, -⟩ := hm.1.open
  obtain ⟨aoh, caph, rfl, -⟩ := hm.2.open (fun h hh => hlist_length (wf.harts h hh)) (by omega)
  obtain ⟨ao, cap, rfl, -⟩ := Sl.open hu.row (fun x hx => ulist_len (hu.wf x hx).len) (by omega)
  obtain ⟨w1, hw1⟩ : ∃ w1, w1 = w.alloc (.cells #[.slice aom m.mem.length capm, .slice aoh m.harts.length caph] 25) := ⟨_, rfl⟩
  have hb1 : Below w.heap.size w w1 := by rw [hw1]; exact Fb.blw
  have hs1 : w.heap.size + 1 ≤ w1.heap.size := by rw [hw1]; simp
  have c0 : w1.cell? ⟨w.heap.size, 0, none⟩ = some (.slice aom m.mem.length capm) := by rw [hw1]; go_cell
  have c1 : w1.cell? ⟨w.heap.size, 1, none⟩ = some (.slice aoh m.harts.length caph) := by rw [hw1]; go_cell
  have HB := Lib.hid (back_any _ _ _ m wf us steps w1 (hm.below hb1) (hu.below hb1) hst hul)
  have HD := Lib.hid (fun W hW => back12_any _ _ _ m wf us steps W (hm.below hW) (hu.below hW) hst hul hbn)
  have HWF : Hid ((backS m (us.map (·.d)) steps).1.Wf) := Lib.hid (backS_wf wf (fun u hx => by
    obtain ⟨x, hx2, rfl⟩ := List.mem_map.1 hx
    have h := hu.rng x hx2
    exact ⟨hu.wf x hx2, h.2.2.1, fun p hp => (h.2.2.2 p hp).2⟩) steps)
  obtain ⟨mF, hmF⟩ : ∃ x, x = (backS m (us.map (·.d)) steps).1 := ⟨_, rfl⟩
  obtain ⟨eF, heF⟩ : ∃ x, x = (backS m (us.map (·.d)) steps).2 := ⟨_, rfl⟩
  simp only [← hmF, ← heF] at HB HD HWF
  have HW1 := Lib.hid hw1
  have HB1 := Lib.hid hb1
  clear hw1 hm hu hst hul hbn hmF heF hb1 wf
  go_enter Try.func9, Try.ntmps9
  go_upto_region 1 with (fail)
  rw [← HW1.out]
  go_wp2_with fail
  refine HB.out.mono ?_
  rintro e w2 ⟨⟨vm2, vh2, rfl, hm2⟩, hb2⟩
  obtain ⟨am2, cm2, rfl, -⟩ := hm2.1.open
  obtain ⟨ah2, ch2, rfl, -⟩ := hm2.2.open (fun h hh => hlist_length (HWF.out.harts h hh)) (by omega)
  have hs2 := hb2.size
  have l1 : w.heap.size < w1.heap.size := by omega
  obtain ⟨w3, hw3⟩ : ∃ x, x = w2.alloc (.cells #[.slice am2 mF.mem.length cm2, .slice ah2 mF.harts.length ch2] 25) := ⟨_, rfl⟩
  have hb3 : Below w2.heap.size w2 w3 := by rw [hw3]; exact Fb.blw
  have hs3 : w2.heap.size + 1 ≤ w3.heap.size := by rw [hw3]; simp
  have hb13 : Below w1.heap.size w1 w3 := hb2.trans (hb3.mono hs2)
  have d0 := (hb13.cell (p := ⟨w.heap.size, 0, none⟩) l1).trans c0
  have d1 := (hb13.cell (p := ⟨w.heap.size, 1, none⟩) l1).trans c1
  have g0 : (w3).cell? ⟨w2.heap.size, 0, none⟩ = some (.slice am2 mF.mem.length cm2) := by rw [hw3]; go_cell
  have g1 : (w3).cell? ⟨w2.heap.size, 1, none⟩ = some (.slice ah2 mF.harts.length ch2) := by rw [hw3]; go_cell
  have HB3 := Lib.hid (HB1.out.trans (hb13.mono (by omega)))
  have HM3 := Lib.hid (hm2.below hb3)
  have HD3 := Lib.hid (HD.out w3 HB3.out)
  have HW3 := Lib.hid hw3
  clear c0 c1 hb2 hb3 hb13 hw3 hm2 HB HD
  go_upto_region 2 with (fail)
  rw [← HW3.out]
  go_wp2_with fail
  refine HD3.out.mono ?_
  rintro e w4 ⟨⟨vm4, vh4, rfl, hm4⟩, hb4⟩
  obtain ⟨am4, cm4, rfl, -⟩ := hm4.1.open
  obtain ⟨ah4, ch4, rfl, -⟩ := hm4.2.open (fun h hh => hlist_length (HWF.out.harts h hh)) (by omega)
  have hs4 := hb4.size
  have l3 : w2.heap.size < w3.heap.size := by omega
  obtain ⟨w5, hw5⟩ : ∃ x, x = w4.alloc (.cells #[.slice am4 mF.mem.length cm4, .slice ah4 mF.harts.length ch4] 25) := ⟨_, rfl⟩
  have hb5 : Below w4.heap.size w4 w5 := by rw [hw5]; exact Fb.blw
  have hb35 : Below w3.heap.size w3 w5 := hb4.trans (hb5.mono hs4)
  have k0 : (w5).cell? ⟨w2.heap.size, 0, none⟩ = some (.slice am2 mF.mem.length cm2) := (hb35.cell (p := ⟨w2.heap.size, 0, none⟩) (l3)).trans g0
  have k1 : (w5).cell? ⟨w2.heap.size, 1, none⟩ = some (.slice ah2 mF.harts.length ch2) := (hb35.cell (p := ⟨w2.heap.size, 1, none⟩) (l3)).trans g1
  have z0 : (w5).cell? ⟨w4.heap.size, 0, none⟩ = some (.slice am4 mF.mem.length cm4) := by rw [hw5]; go_cell
  have z1 : (w5).cell? ⟨w4.heap.size, 1, none⟩ = some (.slice ah4 mF.harts.length ch4) := by rw [hw5]; go_cell
  have HM5 := Lib.hid (machines12 _ _ _ _ mF w5 HWF.out (HM3.out.below hb35) (hm4.below hb5))
  have HB5 := Lib.hid (HB3.out.trans (hb35.mono HB3.out.size))
  have HW5 := Lib.hid hw5
  clear d0 d1 g0 g1 hb4 hb5 hb35 hw5 hm4 HD3
  go_upto_region 3 with (fail)
  rw [← HW5.out]
  go_wp2_with fail
  refine HM5.out.mono ?_
  rintro e w6 ⟨rfl, hb6⟩
  go_wp2_with fail
  go_ret
  exact ⟨rfl, HB5.out.trans (hb6.mono HB5.out.size)⟩
open RowB in
theorem lifted (os : Os) (started : os.Started) (H : Type) (enc : TypeId × Value → H) :
    ReturnsInHanded {} Try.checked os 9 .any (Rows.undoBacksSpec.pre6 enc Try.prog Try.f9 Rows.undoBacksRow.domain false) (Rows.undoBacksSpec.post enc Try.prog Try.f9 false true false false) := by
  refine RowB.law_lifted (C := Try.checked) (tb := 4) (by kernel_rfl) started (by kernel_rfl) (by kernel_rfl)
    (ChangeSpec.witness6 (enc := enc) (C := Try.checked) false ⟨#[], #[.agg #[.slice none 0 0, .slice none 0 0], .slice none 0 0, .int .i64 0], []⟩ 8 (by kernel_rfl) (by kernel_rfl) (by kernel_rfl) (by kernel_rfl))
    rfl (fun ds h => by match ds, h with | [_, _, _], _ => rfl) (by kernel_rfl) (by kernel_rfl) (by kernel_rfl) (of_decide_eq_true (by kernel_rfl)) ?_
  intro W base args ds ps hval hA _ hz
  have hp : (Try.f9).params.toList = [25, 47, 3] := by kernel_rfl
  rw [hp] at hA hz
  obtain ⟨v0, vs0, d0, ds0, p0, q0, hargs, rfl, rfl, h0, r0⟩ := ChangeShapes.trodAll_cons hA
  obtain ⟨v1, vs1, d1, ds1, p1, q1, rfl, rfl, rfl, h1, r1⟩ := ChangeShapes.trodAll_cons r0
  obtain ⟨v2, vs2, d2, ds2, p2, q2, rfl, rfl, rfl, h2, r2⟩ := ChangeShapes.trodAll_cons r1
  obtain ⟨rfl, rfl, rfl⟩ := ChangeShapes.trodAll_nil r2
  obtain rfl : args = #[v0, v1, v2] := by cases args; simp_all
  obtain ⟨z0, y0⟩ := weights_cons hz
  obtain ⟨z1, y1⟩ := weights_cons y0
  obtain ⟨z2, y2⟩ := weights_cons y1
  have k0 := hval 0 25 v0 (by kernel_rfl) rfl
  have k1 := hval 1 47 v1 (by kernel_rfl) rfl
  have k2 := hval 2 3 v2 (by kernel_rfl) rfl
  obtain ⟨⟨vm, vh, m⟩, rfl, hm, wf, _, _⟩ := opens_machine.arg Try.underlying25 k0 h0 z0
  obtain ⟨⟨vs, us⟩, rfl, hu, hbn, hul⟩ := opens_undos.argSlice (g := fun p : Value × List UndD => p.1) Try.underlying47 k1 h1 z1
  obtain ⟨c, rfl, rfl, rfl, wc⟩ := ChangeShapes.open_int Try.underlying3 k2 h2
  exact walk vm vh v1 m us c W hm wf hu (wf_i64 wc) hul hbn
theorem proved : Rows.UndoBacksSaid :=
  OpenClaim.holds_of_wide 9 Try.f9 rfl rfl rfl rfl rfl rfl rfl ⟨rfl, rfl, rfl, rfl, rfl⟩ rfl rfl rfl rfl rfl (by kernel_rfl) Try.func9 (by kernel_rfl)
    (of_decide_eq_true (by kernel_rfl)) (by unfold Func.isWrapper; first | (rw [if_pos (by decide +kernel)]; kernel_rfl) | (rw [if_neg (by decide +kernel)]; exact ⟨rfl, rfl⟩))
    (fun os started H enc _ => lifted os started H enc)
#print axioms proved
end Go.Proofs.Ytlfnddmncbkjaaa.UndoBacksLaw
