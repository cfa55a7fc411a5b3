/- ImageBack: for every machine that has bytes: they are read as it, and that has the same bytes; and no shorter row of bytes is read. No condition. -/
import Derived.Test.YtlfnddmncbkjaabZWPut
import Derived.Test.YtlfnddmncbkjaabZWGet
import Derived.Test.YtlfnddmncbkjaabZMB
import Derived.Test.YtlfnddmncbkjaabZWSame
import Derived.Test.YtlfnddmncbkjaabZMA
namespace Go.Proofs.Ytlfnddmncbkjaab.ImageBackLaw
set_option linter.unusedVariables false
set_option linter.unusedSimpArgs false
open Go.RowKit Fb W
set_option maxRecDepth 100000 in
set_option maxHeartbeats 800000 in
theorem walk (vm vh : Value) (m : Mach) (n : Nat) (hn : (n : Int) < 65536) (w : World) (hm : MachAt w vm vh m) (wf : m.Wf) :
    Calls Try.prog 3 #[.agg #[vm, vh], .int .u16 n] w fun e w' => e = .returned (.bool true) ∧ Below w.heap.size w w' := by
  have HM := Lib.hid hm
  clear hm
  obtain ⟨aom, capm, rfl, -⟩ := HM.out.1.open
  obtain ⟨aoh, caph, rfl, -⟩ := HM.out.2.open (fun h hh => hlist_length (wf.harts h hh)) (by omega)
  have hb0 : Below w.heap.size w (w.alloc (.cells #[.slice aom m.mem.length capm, .slice aoh m.harts.length caph] 25)) := by go_grown
  have c0 : (w.alloc (.cells #[.slice aom m.mem.length capm, .slice aoh m.harts.length caph] 25)).cell? ⟨w.heap.size, 0, none⟩ = some (.slice aom m.mem.length capm) := by go_cell
  have c1 : (w.alloc (.cells #[.slice aom m.mem.length capm, .slice aoh m.harts.length caph] 25)).cell? ⟨w.heap.size, 1, none⟩ = some (.slice aoh m.harts.length caph) := by go_cell
  have hs0 : (w.alloc (.cells #[.slice aom m.mem.length capm, .slice aoh m.harts.length caph] 25)).heap.size = w.heap.size + 1 := by simp
  have hmax : n ≤ (mbytes m).length ∨ (mbytes m).length ≤ n := by omega
  have HN := Lib.hid hn
  clear hn hmax
  go_enter Try.func3, Try.ntmps3
  go_wp2_with fail
  generalize w.alloc (.cells #[.slice aom m.mem.length capm, .slice aoh m.harts.length caph] 25) = w0 at *
  have hlt0 : w.heap.size < w0.heap.size := by omega
  have HM0 := Lib.hid (HM.out.below hb0)
  refine (put_any _ _ m wf _ HM0.out).mono ?_
  rintro e w1 ⟨⟨v, rfl, hv⟩, hb1⟩
  have HV := Lib.hid hv
  have HM1 := Lib.hid (HM0.out.below hb1)
  have d0 := (hb1.cell (p := ⟨w.heap.size, 0, none⟩) hlt0).trans c0
  have d1 := (hb1.cell (p := ⟨w.heap.size, 1, none⟩) hlt0).trans c1
  have hlt1 : w.heap.size < w1.heap.size := by have := hb1.size; omega
  have hb2 := hb0.trans (hb1.mono (by omega))
  clear hv hb1 c0 c1 hs0 hb0 HM0
  rcases wrong_nil m with hw | hw
  rotate_left
  · rw [hw] at HV ⊢
    have HV3 : Hid (Ints .u8 w1 v []) := HV
    obtain ⟨aov, capv, rfl, -⟩ := HV3.out.open
    clear hw
    go_wp2_with fail
    go_ret
    exact ⟨rfl, hb2⟩
  rw [hw] at HV ⊢
  have HV1 : Hid (Ints .u8 w1 v (mbytes m)) := HV
  have HG := Lib.hid (fun v' W hW => getS_back wf hw ▸ get_any v' (mbytes m) W hW (mbytes_bytes wf) (by have := wrong_mem hw; rw [mbytes_len wf]; omega))
  have HGC : Hid (∀ v' W, n < (mbytes m).length → Ints .u8 W v' ((mbytes m).take n) → Calls Try.prog 15 #[v'] W fun e w' => (∃ vm vh, e = .returned (.tuple #[.agg #[vm, vh], .int .i64 2]) ∧ MachAt w' vm vh ⟨[], []⟩) ∧ Below W.heap.size W w') := Lib.hid (fun v' W h hW => by
    have h9 := get_any v' ((mbytes m).take n) W hW ((mbytes_bytes wf).take n) (by have := wrong_mem hw; rw [List.length_take, mbytes_len wf]; omega)
    rw [getS_cut wf hw n h] at h9
    exact h9)
  have HP : Hid (∀ vm vh W, MachAt W vm vh m → Calls Try.prog 14 #[.agg #[vm, vh]] W fun e w' => (∃ v, e = .returned (.tuple #[v, .int .i64 0]) ∧ Ints .u8 w' v (mbytes m)) ∧ Below W.heap.size W w') := Lib.hid (fun vm vh W hW => (put_any vm vh m wf W hW).mono (fun e w' h => by rw [hw] at h; exact h))
  have hpos : 0 < (mbytes m).length := mbytes_pos wf
  have hmx : (mbytes m).length ≤ 5000 := by have := wrong_mem hw; rw [mbytes_len wf]; omega
  obtain ⟨av, cv, rfl, hcv1, hcv2, -⟩ := HV1.out.open
  unfold maxLen at hcv2
  clear HV hw
  generalize hB : mbytes m = B at *
  clear hB
  go_wp2_with fail
  refine (HG.out _ _ HV1.out).mono ?_
  rintro e w2 ⟨⟨vm2, vh2, rfl, hm2⟩, hb3⟩
  have HM2 := Lib.hid hm2
  have c0 := (hb3.cell (p := ⟨w.heap.size, 0, none⟩) hlt1).trans d0
  have c1 := (hb3.cell (p := ⟨w.heap.size, 1, none⟩) hlt1).trans d1
  have hb4 := hb2.trans (hb3.mono (by omega))
  have hlt2 : w.heap.size < w2.heap.size := by have := hb3.size; omega
  have HV2 := Lib.hid (HV1.out.below hb3)
  have HMO := Lib.hid (HM1.out.below hb3)
  clear hm2 hb3 d0 d1 hb2 HV1 HM1 hlt1
  obtain ⟨am2, cm2, rfl, -⟩ := HM2.out.1.open
  obtain ⟨ah2, ch2, rfl, -⟩ := HM2.out.2.open (fun h hh => hlist_length (wf.harts h hh)) (by omega)
  obtain ⟨w3, hw3⟩ : ∃ w3, w3 = w2.alloc (.cells #[.slice am2 m.mem.length cm2, .slice ah2 m.harts.length ch2] 25) := ⟨_, rfl⟩
  have hb5 : Below w2.heap.size w2 w3 := by rw [hw3]; exact (by repeat (first | with_reducible exact Below.refl _ _ | with_reducible refine below_drewN ?_ _ | ((with_reducible refine Below.setCell ?_ ?hq _); case hq => (first | (simp; done) | (simp; omega))) | ((with_reducible refine Below.alloc ?_ ?hq _); case hq => (first | (simp; done) | (simp; omega)))))
  have hs3 : w2.heap.size + 1 ≤ w3.heap.size := by rw [hw3]; simp
  have e0 := (hb5.cell (p := ⟨w.heap.size, 0, none⟩) hlt2).trans c0
  have e1 := (hb5.cell (p := ⟨w.heap.size, 1, none⟩) hlt2).trans c1
  have x0 : w3.cell? ⟨w2.heap.size, 0, none⟩ = some (.slice am2 m.mem.length cm2) := by rw [hw3]; go_cell
  have x1 : w3.cell? ⟨w2.heap.size, 1, none⟩ = some (.slice ah2 m.harts.length ch2) := by rw [hw3]; go_cell
  have hb6 := hb4.trans (hb5.mono (by omega))
  have HM3 := Lib.hid (HM2.out.below hb5)
  have HMO3 := Lib.hid (HMO.out.below hb5)
  have HV3 := Lib.hid (HV2.out.below hb5)
  have HW3 := Lib.hid hw3
  clear c0 c1 hb4 hb5 hw3 HM2 HMO HV2
  go_upto_region 5 with (fail)
  rw [← HW3.out]
  go_wp2_with fail
  refine (HP.out _ _ _ HM3.out).mono ?_
  rintro e w4 ⟨⟨v4, rfl, hv4⟩, hb7⟩
  obtain ⟨ac, cc, rfl, hcc1, hcc2, -⟩ := hv4.open
  unfold maxLen at hcc2
  have l0 : w.heap.size < w3.heap.size := by omega
  have l1 : w2.heap.size < w3.heap.size := by omega
  have f0 := (hb7.cell (p := ⟨w.heap.size, 0, none⟩) l0).trans e0
  have f1 := (hb7.cell (p := ⟨w.heap.size, 1, none⟩) l0).trans e1
  have y0 := (hb7.cell (p := ⟨w2.heap.size, 0, none⟩) l1).trans x0
  have y1 := (hb7.cell (p := ⟨w2.heap.size, 1, none⟩) l1).trans x1
  have hs4 := hb7.size
  have HB4 := Lib.hid (hb6.trans (hb7.mono (by omega)))
  have HM4 := Lib.hid (HM3.out.below hb7)
  have HMO4 := Lib.hid (HMO3.out.below hb7)
  have HV4 := Lib.hid (HV3.out.below hb7)
  have HC4 := Lib.hid hv4
  have HEND : Hid (∀ W, Below w4.heap.size w4 W → W.cell? ⟨w.heap.size, 0, none⟩ = some (.slice aom m.mem.length capm) ∧ W.cell? ⟨w.heap.size, 1, none⟩ = some (.slice aoh m.harts.length caph) ∧ W.cell? ⟨w2.heap.size, 0, none⟩ = some (.slice am2 m.mem.length cm2) ∧ W.cell? ⟨w2.heap.size, 1, none⟩ = some (.slice ah2 m.harts.length ch2) ∧
      (convert 22 9 (.slice av B.length cv)).run Try.prog W = .ok (.string (strOfNums B)) W ∧ (convert 22 9 (.slice ac B.length cc)).run Try.prog W = .ok (.string (strOfNums B)) W) := Lib.hid (fun W hW =>
    ⟨(hW.cell (p := ⟨w.heap.size, 0, none⟩) (by show w.heap.size < _; omega)).trans f0, (hW.cell (p := ⟨w.heap.size, 1, none⟩) (by show w.heap.size < _; omega)).trans f1, (hW.cell (p := ⟨w2.heap.size, 0, none⟩) (by show w2.heap.size < _; omega)).trans y0, (hW.cell (p := ⟨w2.heap.size, 1, none⟩) (by show w2.heap.size < _; omega)).trans y1,
      conv_any (P := Try.prog) W _ B _ _ _ Try.underlying22 Try.underlying5 Try.underlying9 (HV4.out.below hW), conv_any (P := Try.prog) W _ B _ _ _ Try.underlying22 Try.underlying5 Try.underlying9 (HC4.out.below hW)⟩)
  have HF : Hid (∀ W, Below w4.heap.size w4 W → Calls Try.prog 16 #[.agg #[.slice aom m.mem.length capm, .slice aoh m.harts.length caph], .agg #[.slice am2 m.mem.length cm2, .slice ah2 m.harts.length ch2]] W fun e w' => e = .returned (.bool true) ∧ Below W.heap.size W w') := Lib.hid (fun W hW => machines12 _ _ _ _ m W wf (HMO4.out.below hW) (HM4.out.below hW))
  clear e0 e1 x0 x1 hb6 hb7 f0 f1 y0 y1 HM3 HMO3 HV3
  have hwr : wrap64 (n : Int) = (n : Int) := by have h := HN.out; clear HEND HF; unfold wrap64; omega
  go_upto_region 7 with (fail)
  rw [hwr]
  clear hwr
  by_cases hlt : (n : Int) < (B.length : Int)
  · have HGW : Hid (∀ W, Below w4.heap.size w4 W → _) := Lib.hid (fun W hW => HGC.out (.slice av n cv) W (by omega) (ints_cut (HV4.out.below hW) n (by omega)))
    have h0 : (0 : Int) ≤ (n : Int) := by omega
    have h1 : (n : Int) ≤ (cv : Int) := by omega
    go_upto_region 8 with (fail)
    go_wp2_with fail
    refine (HGW.out _ (Below.refl _ _)).mono ?_
    rintro e w5 ⟨⟨vm5, vh5, rfl, hm5⟩, hb8⟩
    obtain ⟨am5, cm5, rfl, -⟩ := hm5.1.open
    obtain ⟨ah5, ch5, rfl, -⟩ := hm5.2.open (fun h hh => by cases hh) (by omega)
    have hs5 := hb8.size
    obtain ⟨w6, hw6⟩ : ∃ w6, w6 = w5.alloc (.cells #[.slice am5 0 cm5, .slice ah5 0 ch5] 25) := ⟨_, rfl⟩
    have hb9 : Below w4.heap.size w4 w6 := by rw [hw6]; exact hb8.alloc hs5 _
    have HW6 := Lib.hid hw6
    have HB9 := Lib.hid (HB4.out.trans (hb9.mono (by omega)))
    have hs6 : w4.heap.size ≤ w6.heap.size := hb9.size
    obtain ⟨g0, g1, g2, g3, g4, g5⟩ := HEND.out _ hb9
    have HF6 := Lib.hid (HF.out _ hb9)
    clear hw6 hb8 hb9 hm5 HEND HF
    go_upto_region 9 with (fail)
    (try simp only [List.length_nil])
    rw [← HW6.out]
    go_wp2_with fail
    refine HF6.out.mono ?_
    rintro e w7 ⟨rfl, hb10⟩
    go_wp2_with fail
    go_ret
    exact ⟨rfl, HB9.out.trans (hb10.mono HB9.out.size)⟩
  · have HF4 := Lib.hid (HF.out _ (Below.refl _ _))
    clear HF
    obtain ⟨g0, g1, g2, g3, g4, g5⟩ := HEND.out _ (Below.refl _ _)
    clear HEND
    clear hmx hcv2 hcc2 hlt2 hs3 hs4 l0 l1 hlt0
    go_wp2_with fail
    refine HF4.out.mono ?_
    rintro e w7 ⟨rfl, hb10⟩
    go_wp2_with fail
    go_ret
    exact ⟨rfl, HB4.out.trans (hb10.mono HB4.out.size)⟩
open RowB in
set_option maxRecDepth 100000 in
set_option maxHeartbeats 1600000 in
theorem lifted (os : Os) (started : os.Started) (H : Type) (enc : TypeId × Value → H) :
    ReturnsInHanded {} Try.checked os 3 .any (Rows.imageBackSpec.pre6 enc Try.prog Try.f3 Rows.imageBackRow.domain false) (Rows.imageBackSpec.post enc Try.prog Try.f3 false true false false) := by
  refine RowB.law_lifted (C := Try.checked) (tb := 4) (by kernel_rfl) started (by kernel_rfl) (by kernel_rfl)
    (ChangeSpec.witness6 (enc := enc) (C := Try.checked) false ⟨#[], #[.agg #[.slice none 0 0, .slice none 0 0], .int .u16 0], []⟩ 8 (by kernel_rfl) (by kernel_rfl) (by kernel_rfl) (by kernel_rfl))
    rfl (fun ds h => by match ds, h with | [_, _], _ => rfl) (by kernel_rfl) (by kernel_rfl) (by kernel_rfl) (of_decide_eq_true (by kernel_rfl)) ?_
  intro W base args ds ps hval hA _ hz
  have hp : (Try.f3).params.toList = [25, 26] := by kernel_rfl
  rw [hp] at hA hz
  obtain ⟨v0, vs0, d0, ds0, p0, q0, hargs, rfl, rfl, h0, r0⟩ := ChangeShapes.trodAll_cons hA
  obtain ⟨v1, vs1, d1, ds1, p1, q1, rfl, rfl, rfl, h1, r1⟩ := ChangeShapes.trodAll_cons r0
  obtain ⟨rfl, rfl, rfl⟩ := ChangeShapes.trodAll_nil r1
  obtain rfl : args = #[v0, v1] := by cases args; simp_all
  obtain ⟨z0, y0⟩ := weights_cons hz
  obtain ⟨z1, y1⟩ := weights_cons y0
  have k0 := hval 0 25 v0 (by kernel_rfl) rfl
  have k1 := hval 1 26 v1 (by kernel_rfl) rfl
  obtain ⟨⟨vm, vh, m⟩, rfl, hm, wf, _, _⟩ := opens_machine.arg Try.underlying25 k0 h0 z0
  obtain ⟨c, rfl, rfl, rfl, wc⟩ := ChangeShapes.open_int Try.underlying26 k1 h1
  obtain ⟨n, rfl⟩ := Int.eq_ofNat_of_zero_le (Fb.wf_u16 wc).1
  exact walk vm vh m n (Fb.wf_u16 wc).2 W hm wf
/-- THE STATEMENT -/
theorem proved : Rows.ImageBackSaid :=
  OpenClaim.holds_of_wide 3 Try.f3 rfl rfl rfl rfl rfl rfl rfl ⟨rfl, rfl, rfl, rfl, rfl⟩ rfl rfl rfl rfl rfl (by kernel_rfl) Try.func3 (by kernel_rfl)
    (of_decide_eq_true (by kernel_rfl)) (by unfold Func.isWrapper; first | (rw [if_pos (by decide +kernel)]; kernel_rfl) | (rw [if_neg (by decide +kernel)]; exact ⟨rfl, rfl⟩))
    (fun os started H enc _ => lifted os started H enc)
#print axioms proved
end Go.Proofs.Ytlfnddmncbkjaab.ImageBackLaw
