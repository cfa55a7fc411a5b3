/- ImageGets: for every bytes the program tells the machine that they are, or that they are none. No condition. -/
import Derived.Test.YtlfnddmncbkjaaaZWGet
import Derived.Test.YtlfnddmncbkjaaaZWGet13
import Derived.Test.YtlfnddmncbkjaaaZWSame
import Derived.Test.YtlfnddmncbkjaaaZWRef4Bytes
import Derived.Test.YtlfnddmncbkjaaaZMA
namespace Go.Proofs.Ytlfnddmncbkjaaa.Fb
set_option linter.unusedVariables false
set_option linter.unusedSimpArgs false
theorem getS_wf {b : List Int} (hb : Bytes b) : (getS b).1.Wf := by
  by_cases h : ∃ m, isM b m
  · obtain ⟨m, hm⟩ := h
    rw [getS_yes hm]; exact hm.1
  · rw [getS_no (fun m hm => h ⟨m, hm⟩)]
    exact ⟨(by intro x hx; cases hx), (by intro x hx; cases hx)⟩
end Go.Proofs.Ytlfnddmncbkjaaa.Fb
namespace Go.Proofs.Ytlfnddmncbkjaaa.ImageGetsLaw
open Go.RowKit Fb W
set_option maxRecDepth 100000 in
set_option maxHeartbeats 800000 in
theorem walk (v : Value) (b : List Int) (w : World) (hv : Ints .u8 w v b) (hb : Bytes b) (hl : b.length ≤ 140737488351232) :
    Calls Try.prog 10 #[v] w fun e w' => e = .returned (.bool true) ∧ Below w.heap.size w w' := by
  have HG := Lib.hid (fun W hW => get_any v b W hW hb hl)
  have HG13 := Lib.hid (fun W hW => get13_any v b W hW hb hl)
  have HWF : Hid ((getS b).1.Wf) := Lib.hid (getS_wf hb)
  have HV := Lib.hid hv
  obtain ⟨ao, cap, rfl, -⟩ := hv.open
  obtain ⟨m, hm⟩ : ∃ m, m = (getS b).1 := ⟨_, rfl⟩
  obtain ⟨q, hq⟩ : ∃ q, q = (getS b).2 := ⟨_, rfl⟩
  simp only [← hm, ← hq] at HG HG13 HWF
  clear hm hq hv
  go_enter Try.func10, Try.ntmps10
  go_wp2_with fail
  refine (HG.out _ HV.out).mono ?_
  rintro e w1 ⟨⟨vm1, vh1, rfl, hm1⟩, hb1⟩
  obtain ⟨am1, cm1, rfl, -⟩ := hm1.1.open
  obtain ⟨ah1, ch1, rfl, -⟩ := hm1.2.open (fun h hh => hlist_length (HWF.out.harts h hh)) (by omega)
  obtain ⟨w2, hw2⟩ : ∃ w2, w2 = w1.alloc (.cells #[.slice am1 m.mem.length cm1, .slice ah1 m.harts.length ch1] 25) := ⟨_, rfl⟩
  have hb2 : Below w1.heap.size w1 w2 := by rw [hw2]; exact (by repeat (first | with_reducible exact Below.refl _ _ | with_reducible refine below_drewN ?_ _ | ((with_reducible refine Below.setCell ?_ ?hq _); case hq => (first | (simp; done) | (simp; omega))) | ((with_reducible refine Below.alloc ?_ ?hq _); case hq => (first | (simp; done) | (simp; omega)))))
  have hs1 := hb1.size
  have hs2 : w1.heap.size + 1 ≤ w2.heap.size := by rw [hw2]; simp
  have c0 : (w2).cell? ⟨w1.heap.size, 0, none⟩ = some (.slice am1 m.mem.length cm1) := by rw [hw2]; go_cell
  have c1 : (w2).cell? ⟨w1.heap.size, 1, none⟩ = some (.slice ah1 m.harts.length ch1) := by rw [hw2]; go_cell
  have HB2 := Lib.hid (hb1.trans (hb2.mono hs1))
  have HM2 := Lib.hid (hm1.below hb2)
  have HW2 := Lib.hid hw2
  clear hm1 hb1 hb2 hw2
  go_upto_region 2 with (fail)
  rw [← HW2.out]
  go_wp2_with fail
  refine (HG13.out _ (HV.out.below HB2.out)).mono ?_
  rintro e w3 ⟨⟨vm3, vh3, rfl, hm3⟩, hb3⟩
  obtain ⟨am3, cm3, rfl, -⟩ := hm3.1.open
  obtain ⟨ah3, ch3, rfl, -⟩ := hm3.2.open (fun h hh => hlist_length (HWF.out.harts h hh)) (by omega)
  have l2 : w1.heap.size < w2.heap.size := by omega
  have d0 : (w3).cell? ⟨w1.heap.size, 0, none⟩ = some (.slice am1 m.mem.length cm1) := (hb3.cell (p := ⟨w1.heap.size, 0, none⟩) (l2)).trans c0
  have d1 : (w3).cell? ⟨w1.heap.size, 1, none⟩ = some (.slice ah1 m.harts.length ch1) := (hb3.cell (p := ⟨w1.heap.size, 1, none⟩) (l2)).trans c1
  obtain ⟨w4, hw4⟩ : ∃ w4, w4 = w3.alloc (.cells #[.slice am3 m.mem.length cm3, .slice ah3 m.harts.length ch3] 25) := ⟨_, rfl⟩
  have hb4 : Below w3.heap.size w3 w4 := by rw [hw4]; exact (by repeat (first | with_reducible exact Below.refl _ _ | with_reducible refine below_drewN ?_ _ | ((with_reducible refine Below.setCell ?_ ?hq _); case hq => (first | (simp; done) | (simp; omega))) | ((with_reducible refine Below.alloc ?_ ?hq _); case hq => (first | (simp; done) | (simp; omega)))))
  have hs3 := hb3.size
  have hs4 : w3.heap.size + 1 ≤ w4.heap.size := by rw [hw4]; simp
  have l3 : w1.heap.size < w3.heap.size := by omega
  have f0 : (w4).cell? ⟨w1.heap.size, 0, none⟩ = some (.slice am1 m.mem.length cm1) := (hb4.cell (p := ⟨w1.heap.size, 0, none⟩) (l3)).trans d0
  have f1 : (w4).cell? ⟨w1.heap.size, 1, none⟩ = some (.slice ah1 m.harts.length ch1) := (hb4.cell (p := ⟨w1.heap.size, 1, none⟩) (l3)).trans d1
  have g0 : (w4).cell? ⟨w3.heap.size, 0, none⟩ = some (.slice am3 m.mem.length cm3) := by rw [hw4]; go_cell
  have g1 : (w4).cell? ⟨w3.heap.size, 1, none⟩ = some (.slice ah3 m.harts.length ch3) := by rw [hw4]; go_cell
  have HM4 := Lib.hid ((HM2.out.below hb3).below hb4)
  have HN4 := Lib.hid (hm3.below hb4)
  have HB4 := Lib.hid ((HB2.out.trans (hb3.mono (by omega))).trans (hb4.mono (by omega)))
  have HW4 := Lib.hid hw4
  have HS := Lib.hid (machines12 _ _ _ _ m w4 HWF.out HM4.out HN4.out)
  clear c0 c1 d0 d1 hm3 hb3 hb4 hw4
  go_upto_region 3 with (fail)
  rw [← HW4.out]
  go_wp2_with fail
  refine HS.out.mono ?_
  rintro e w5 ⟨rfl, hb5⟩
  have l4 : w1.heap.size < w4.heap.size := by omega
  have l5 : w3.heap.size < w4.heap.size := by omega
  have x0 : (w5).cell? ⟨w1.heap.size, 0, none⟩ = some (.slice am1 m.mem.length cm1) := (hb5.cell (p := ⟨w1.heap.size, 0, none⟩) (l4)).trans f0
  have x1 : (w5).cell? ⟨w1.heap.size, 1, none⟩ = some (.slice ah1 m.harts.length ch1) := (hb5.cell (p := ⟨w1.heap.size, 1, none⟩) (l4)).trans f1
  have y0 : (w5).cell? ⟨w3.heap.size, 0, none⟩ = some (.slice am3 m.mem.length cm3) := (hb5.cell (p := ⟨w3.heap.size, 0, none⟩) (l5)).trans g0
  have y1 : (w5).cell? ⟨w3.heap.size, 1, none⟩ = some (.slice ah3 m.harts.length ch3) := (hb5.cell (p := ⟨w3.heap.size, 1, none⟩) (l5)).trans g1
  have HB5 := Lib.hid (HB4.out.trans (hb5.mono (by have := HB4.out.size; omega)))
  have HM5 := Lib.hid (HM4.out.1.below hb5)
  have HN5 := Lib.hid (HN4.out.1.below hb5)
  clear f0 f1 g0 g1 hb5
  go_wp2_with fail
  refine (bytes4_any _ _ m.mem m.mem w5 HM5.out HN5.out HWF.out.mem HWF.out.mem).mono ?_
  rintro e w6 ⟨rfl, rfl⟩
  go_wp2_with fail
  go_ret
  exact ⟨by simp, HB5.out⟩
open RowB in
set_option maxRecDepth 100000 in
set_option maxHeartbeats 1600000 in
theorem lifted (os : Os) (started : os.Started) (H : Type) (enc : TypeId × Value → H) :
    ReturnsInHanded {} Try.checked os 10 .any (Rows.imageGetsSpec.pre6 enc Try.prog Try.f10 Rows.imageGetsRow.domain false) (Rows.imageGetsSpec.post enc Try.prog Try.f10 false true false false) := by
  refine RowB.law_lifted (C := Try.checked) (tb := 4) (by kernel_rfl) started (by kernel_rfl) (by kernel_rfl)
    (ChangeSpec.witness6 (enc := enc) (C := Try.checked) false ⟨#[], #[.slice none 0 0], []⟩ 8 (by kernel_rfl) (by kernel_rfl) (by kernel_rfl) (by kernel_rfl))
    rfl (fun ds h => by match ds, h with | [_], _ => rfl) (by kernel_rfl) (by kernel_rfl) (by kernel_rfl) (of_decide_eq_true (by kernel_rfl)) ?_
  intro W base args ds ps hval hA _ hz
  have hp : (Try.f10).params.toList = [22] := by kernel_rfl
  rw [hp] at hA hz
  obtain ⟨v0, vs0, d0, ds0, p0, q0, hargs, rfl, rfl, h0, r0⟩ := ChangeShapes.trodAll_cons hA
  obtain ⟨rfl, rfl, rfl⟩ := ChangeShapes.trodAll_nil r0
  obtain rfl : args = #[v0] := by cases args; simp_all
  obtain ⟨z0, y0⟩ := weights_cons hz
  have k0 := hval 0 22 v0 (by kernel_rfl) rfl
  obtain ⟨⟨v, b⟩, rfl, hv, hb, hl⟩ := opens_bytes.argSlice (g := fun p : Value × List Int => p.1) Try.underlying22 k0 h0 z0
  exact walk v0 b W hv hb hl
/-- THE STATEMENT -/
theorem proved : Rows.ImageGetsSaid :=
  OpenClaim.holds_of_wide 10 Try.f10 rfl rfl rfl rfl rfl rfl rfl ⟨rfl, rfl, rfl, rfl, rfl⟩ rfl rfl rfl rfl rfl (by kernel_rfl) Try.func10 (by kernel_rfl)
    (of_decide_eq_true (by kernel_rfl)) (by unfold Func.isWrapper; first | (rw [if_pos (by decide +kernel)]; kernel_rfl) | (rw [if_neg (by decide +kernel)]; exact ⟨rfl, rfl⟩))
    (fun os started H enc _ => lifted os started H enc)
#print axioms proved
end Go.Proofs.Ytlfnddmncbkjaaa.ImageGetsLaw
