/- BlockMakes: for every memory and every place the program tells the block there. No condition. -/
import Derived.Test.YtlfnddmncbkjaabWBlock
import Derived.Test.YtlfnddmncbkjaabWBlock6
import Derived.Test.YtlfnddmncbkjaabWSame6
import Derived.Test.YtlfnddmncbkjaabOpen
namespace Go.Proofs.Ytlfnddmncbkjaab.BlockMakesLaw
set_option linter.unusedVariables false
set_option linter.unusedSimpArgs false
open Go.RowKit Fb W
set_option maxRecDepth 100000 in
set_option maxHeartbeats 400000 in
theorem walk (v : Value) (l : List Int) (pc : Int) (w : World) (hv : Ints .u8 w v l) (hpc : U32 pc) (hb : ∀ i, 0 ≤ l.getD i 0 ∧ l.getD i 0 < 256) (hl : l.length ≤ 140737488351232) :
    Calls Try.prog 7 #[v, .int .u32 pc] w fun e w' => e = .returned (.bool true) ∧ Below w.heap.size w w' := by
  have HM := Lib.hid (fun W h => make_any v l pc W h hpc hb hl)
  have HM6 := Lib.hid (fun W h => make6_any v l pc W h hpc hb hl)
  have HV := Lib.hid hv
  obtain ⟨ao, cap, rfl, _⟩ := hv.open
  clear hv
  generalize (makeS l pc).1 = p at *
  generalize (makeS l pc).2 = is at *
  go_enter Try.func7, Try.ntmps7
  go_wp2_with fail
  refine (HM.out _ HV.out).mono ?_
  rintro e w1 ⟨⟨vi, rfl, hvi⟩, hb1⟩
  obtain ⟨ao1, cap1, rfl, _⟩ := hvi.open (fun _ _ => rfl) (by omega)
  have HV1 := Lib.hid hvi
  clear hvi
  obtain ⟨w2, hw2⟩ : ∃ w2, w2 = w1.alloc (.cells #[.int .u32 p, .slice ao1 is.length cap1] 47) := ⟨_, rfl⟩
  have c0 : (w2).cell? ⟨w1.heap.size, 0, none⟩ = some (.int .u32 p) := by rw [hw2]; go_cell
  have c1 : (w2).cell? ⟨w1.heap.size, 1, none⟩ = some (.slice ao1 is.length cap1) := by rw [hw2]; go_cell
  have hb12 : Below w1.heap.size w1 w2 := by rw [hw2]; exact Below.alloc (Below.refl _ _) (Nat.le_refl _) _
  have hlt2 : w1.heap.size < w2.heap.size := by rw [hw2]; simp
  have HW2 := Lib.hid hw2
  clear hw2
  go_upto_region 2 with (fail)
  rw [← HW2.out]
  go_wp2_with fail
  have hb2 := hb1.trans (hb12.mono hb1.size)
  refine (HM6.out _ (HV.out.below hb2)).mono ?_
  rintro e w3 ⟨⟨vj, rfl, hvj⟩, hb3⟩
  obtain ⟨ao3, cap3, rfl, _⟩ := hvj.open (fun _ _ => rfl) (by omega)
  have HV3 := Lib.hid hvj
  have HV13 := Lib.hid ((HV1.out.below hb12).below hb3)
  have d0 : (w3).cell? ⟨w1.heap.size, 0, none⟩ = some (.int .u32 p) := (hb3.cell (p := ⟨w1.heap.size, 0, none⟩) (hlt2)).trans c0
  have d1 : (w3).cell? ⟨w1.heap.size, 1, none⟩ = some (.slice ao1 is.length cap1) := (hb3.cell (p := ⟨w1.heap.size, 1, none⟩) (hlt2)).trans c1
  have hlt3 := Nat.lt_of_lt_of_le hlt2 hb3.size
  have hb4 := hb2.trans (hb3.mono hb2.size)
  clear hvj c0 c1 HW2 hb2 hb3 hb1 hb12 hlt2
  obtain ⟨w4, hw4⟩ : ∃ w4, w4 = w3.alloc (.cells #[.int .u32 p, .slice ao3 is.length cap3] 47) := ⟨_, rfl⟩
  have e0 : (w4).cell? ⟨w1.heap.size, 0, none⟩ = some (.int .u32 p) := by rw [hw4]; exact (World.cell?_alloc_lt w3 _ _ hlt3).trans d0
  have e1 : (w4).cell? ⟨w1.heap.size, 1, none⟩ = some (.slice ao1 is.length cap1) := by rw [hw4]; exact (World.cell?_alloc_lt w3 _ _ hlt3).trans d1
  have f0 : (w4).cell? ⟨w3.heap.size, 0, none⟩ = some (.int .u32 p) := by rw [hw4]; go_cell
  have f1 : (w4).cell? ⟨w3.heap.size, 1, none⟩ = some (.slice ao3 is.length cap3) := by rw [hw4]; go_cell
  have hb34 : Below w3.heap.size w3 w4 := by rw [hw4]; exact Below.alloc (Below.refl _ _) (Nat.le_refl _) _
  have hb5 := hb4.trans (hb34.mono hb4.size)
  have HW4 := Lib.hid hw4
  clear hw4 d0 d1 hlt3
  go_upto_region 3 with (fail)
  rw [← HW4.out]
  go_wp2_with fail
  refine (same6_any _ _ is p _ (HV13.out.below hb34) (HV3.out.below hb34)).mono ?_
  rintro e w5 ⟨rfl, hb6⟩
  have hb7 := hb5.trans (hb6.mono hb5.size)
  clear hb6
  go_wp2_with fail
  go_ret
  exact ⟨rfl, hb7⟩
open RowB in
set_option maxRecDepth 100000 in
theorem lifted (os : Os) (started : os.Started) (H : Type) (enc : TypeId × Value → H) :
    ReturnsInHanded {} Try.checked os 7 .any (Rows.blockMakesSpec.pre6 enc Try.prog Try.f7 Rows.blockMakesRow.domain false) (Rows.blockMakesSpec.post enc Try.prog Try.f7 false true false false) := by
  refine RowB.law_lifted (C := Try.checked) (tb := 4) (by kernel_rfl) started (by kernel_rfl) (by kernel_rfl)
    (ChangeSpec.witness6 (enc := enc) (C := Try.checked) false ⟨#[], #[.slice none 0 0, .int .u32 0], []⟩ 8 (by kernel_rfl) (by kernel_rfl) (by kernel_rfl) (by kernel_rfl))
    rfl (fun ds h => by match ds, h with | [_, _], _ => rfl) (by kernel_rfl) (by kernel_rfl) (by kernel_rfl) (of_decide_eq_true (by kernel_rfl)) ?_
  intro W base args ds ps hval hA _ hz
  have hp : (Try.f7).params.toList = [22, 34] := by kernel_rfl
  rw [hp] at hA hz
  obtain ⟨v0, vs0, d0, ds0, p0, q0, hargs, rfl, rfl, h0, r0⟩ := ChangeShapes.trodAll_cons hA
  obtain ⟨v1, vs1, d1, ds1, p1, q1, rfl, rfl, rfl, h1, r1⟩ := ChangeShapes.trodAll_cons r0
  obtain ⟨rfl, rfl, rfl⟩ := ChangeShapes.trodAll_nil r1
  obtain rfl : args = #[v0, v1] := by cases args; simp_all
  obtain ⟨z0, y0⟩ := weights_cons hz
  obtain ⟨z1, y1⟩ := weights_cons y0
  have k0 := hval 0 22 v0 (by kernel_rfl) rfl
  have k1 := hval 1 34 v1 (by kernel_rfl) rfl
  obtain ⟨l, hv, hb, hr⟩ := open_bytes Try.underlying22 Try.underlying5 (by kernel_rfl) (by kernel_rfl) k0 h0 z0
  obtain ⟨a, rfl, rfl, rfl, wa⟩ := ChangeShapes.open_int Try.underlying34 k1 h1
  exact walk v0 l a W hv (Fb.wf_u32 wa) hb.getD (by omega)
/-- THE STATEMENT -/
theorem proved : Rows.BlockMakesSaid :=
  OpenClaim.holds_of_wide 7 Try.f7 rfl rfl rfl rfl rfl rfl rfl ⟨rfl, rfl, rfl, rfl, rfl⟩ rfl rfl rfl rfl rfl (by kernel_rfl) Try.func7 (by kernel_rfl)
    (of_decide_eq_true (by kernel_rfl)) (by unfold Func.isWrapper; first | (rw [if_pos (by decide +kernel)]; kernel_rfl) | (rw [if_neg (by decide +kernel)]; exact ⟨rfl, rfl⟩))
    (fun os started H enc _ => lifted os started H enc)
#print axioms proved
end Go.Proofs.Ytlfnddmncbkjaab.BlockMakesLaw
