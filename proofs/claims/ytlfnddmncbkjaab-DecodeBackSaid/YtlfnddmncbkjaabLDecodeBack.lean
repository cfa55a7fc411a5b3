/- DecodeBack: for every word that is an instruction: the word that that has is read as the same one. No condition. -/
import Derived.Test.YtlfnddmncbkjaabWEncode2
import Derived.Test.YtlfnddmncbkjaabOpen
namespace Go.Proofs.Ytlfnddmncbkjaab.DecodeBackLaw
set_option linter.unusedVariables false
set_option linter.unusedSimpArgs false
open Go.RowKit Fb W
theorem dec19 : dec 19 = some ⟨19, 0, 0, 0, 0⟩ := by decide +kernel
set_option maxRecDepth 100000 in
set_option maxHeartbeats 400000 in
theorem walk (x : Int) (w : World) (hx : U32 x) :
    Calls Try.prog 6 #[.int .u32 x] w fun e w' => e = .returned (.bool true) ∧ Below w.heap.size w w' := by
  have HX := Lib.hid hx
  have HD0 := Lib.hid (fun W => decode_any 19 W (by unfold U32; omega))
  rw [dec19] at HD0
  simp only [Option.getD_some, Option.isSome_some, icells] at HD0
  have HD := Lib.hid (fun W => decode_any x W hx)
  have hwf : I32 ((dec x).getD i0).imm := by
    cases h : dec x with
    | none => exact (by unfold I32 i0; dsimp only [Option.getD_none]; omega)
    | some i => exact (dec_is x i h).2
  have HE := Lib.hid (fun W => encode_any ((dec x).getD i0) W hwf)
  have HS : Hid (isS ((dec x).getD i0) = (dec x).isSome) := Lib.hid (by
    cases h : dec x with
    | none => rfl
    | some i => exact (dec_is x i h).1)
  have HK : Hid ((dec x).isSome = false → (dec x).getD i0 = i0) := Lib.hid (by intro h; cases h2 : dec x with | none => rfl | some y => rw [h2] at h; cases h)
  have HD3 := Lib.hid (fun W => decode_any (encW ((dec x).getD i0)) W (encK_u _ _ _ _ _))
  have HB : Hid ((dec x).isSome = true → dec (encW ((dec x).getD i0)) = some ((dec x).getD i0)) := Lib.hid (fun h => enc_dec _ (by rw [HS.out]; exact h) hwf)
  rw [HS.out] at HE
  clear hx hwf HS HX
  generalize encW ((dec x).getD i0) = c at *
  generalize (dec x).isSome = b at *
  generalize (dec x).getD i0 = i at *
  obtain ⟨q1, q2, q3, q4, q5⟩ := i
  simp only [icells] at *
  have hg : Try.prog.eqGuardType Try.prog.depth 38 = false := by kernel_rfl
  go_enter Try.func6, Try.ntmps6
  go_wp2_with fail
  refine (HD0.out _).mono ?_
  rintro e w1 ⟨rfl, hb1⟩
  clear HD0
  obtain ⟨w2, hw2⟩ : ∃ w2, w2 = w1.alloc (.cells #[.int .i64 19, .int .i64 0, .int .i64 0, .int .i64 0, .int .i32 0] 38) := ⟨_, rfl⟩
  have k0 : w2.cell? ⟨w1.heap.size, 0, none⟩ = some (.int .i64 19) := by rw [hw2]; go_cell
  have hb2 : Below w.heap.size w w2 := by rw [hw2]; exact hb1.trans (Below.alloc (Below.refl _ _) hb1.size _)
  have HW2 := Lib.hid hw2
  clear hw2 hb1
  go_upto_region 2 with (fail)
  rw [← HW2.out]
  go_wp2_with fail
  refine (HD.out _).mono ?_
  rintro e w3 ⟨rfl, hb3⟩
  clear k0 HW2 HD
  have hb4 : Below w.heap.size w w3 := hb2.trans (hb3.mono hb2.size)
  clear hb3 hb2
  obtain ⟨w4, hw4⟩ : ∃ w4, w4 = w3.alloc (.cells #[.int .i64 q1, .int .i64 q2, .int .i64 q3, .int .i64 q4, .int .i32 q5] 38) := ⟨_, rfl⟩
  have c0 : (w4).cell? ⟨w3.heap.size, 0, none⟩ = some (.int .i64 q1) := by rw [hw4]; go_cell
  have c1 : (w4).cell? ⟨w3.heap.size, 1, none⟩ = some (.int .i64 q2) := by rw [hw4]; go_cell
  have c2 : (w4).cell? ⟨w3.heap.size, 2, none⟩ = some (.int .i64 q3) := by rw [hw4]; go_cell
  have c3 : (w4).cell? ⟨w3.heap.size, 3, none⟩ = some (.int .i64 q4) := by rw [hw4]; go_cell
  have c4 : (w4).cell? ⟨w3.heap.size, 4, none⟩ = some (.int .i32 q5) := by rw [hw4]; go_cell
  have hb5 : Below w.heap.size w w4 := by rw [hw4]; exact hb4.trans (Below.alloc (Below.refl _ _) hb4.size _)
  have hlt : w3.heap.size < w4.heap.size := by rw [hw4]; simp
  have HW4 := Lib.hid hw4
  clear hw4 hb4
  go_upto_region 5 with (fail)
  rw [← HW4.out]
  go_wp2_with fail
  refine (HE.out _).mono ?_
  rintro e w5 ⟨rfl, hb6⟩
  clear HE HW4
  have d0 : (w5).cell? ⟨w3.heap.size, 0, none⟩ = some (.int .i64 q1) := (hb6.cell (p := ⟨w3.heap.size, 0, none⟩) (hlt)).trans c0
  have d1 : (w5).cell? ⟨w3.heap.size, 1, none⟩ = some (.int .i64 q2) := (hb6.cell (p := ⟨w3.heap.size, 1, none⟩) (hlt)).trans c1
  have d2 : (w5).cell? ⟨w3.heap.size, 2, none⟩ = some (.int .i64 q3) := (hb6.cell (p := ⟨w3.heap.size, 2, none⟩) (hlt)).trans c2
  have d3 : (w5).cell? ⟨w3.heap.size, 3, none⟩ = some (.int .i64 q4) := (hb6.cell (p := ⟨w3.heap.size, 3, none⟩) (hlt)).trans c3
  have d4 : (w5).cell? ⟨w3.heap.size, 4, none⟩ = some (.int .i32 q5) := (hb6.cell (p := ⟨w3.heap.size, 4, none⟩) (hlt)).trans c4
  have hb7 : Below w.heap.size w w5 := hb5.trans (hb6.mono hb5.size)
  have hlt5 : w3.heap.size < w5.heap.size := Nat.lt_of_lt_of_le hlt hb6.size
  clear c0 c1 c2 c3 c4 hb6 hlt hb5
  cases b with
  | false =>
    have hq := HK.out rfl
    injection hq with e1 e2 e3 e4 e5
    subst e1 e2 e3 e4 e5
    clear HK HB HD3
    go_wp2_with fail
    all_goals go_ret
    all_goals exact ⟨by first | rfl | simp, hb7⟩
  | true =>
    have hs := HB.out rfl
    rw [hs] at HD3
    clear hs HB HK
    simp only [Option.getD_some, Option.isSome_some] at HD3
    go_wp2_with fail
    refine (HD3.out _).mono ?_
    rintro e w6 ⟨rfl, hb8⟩
    have e0 : (w6).cell? ⟨w3.heap.size, 0, none⟩ = some (.int .i64 q1) := (hb8.cell (p := ⟨w3.heap.size, 0, none⟩) (hlt5)).trans d0
    have e1 : (w6).cell? ⟨w3.heap.size, 1, none⟩ = some (.int .i64 q2) := (hb8.cell (p := ⟨w3.heap.size, 1, none⟩) (hlt5)).trans d1
    have e2 : (w6).cell? ⟨w3.heap.size, 2, none⟩ = some (.int .i64 q3) := (hb8.cell (p := ⟨w3.heap.size, 2, none⟩) (hlt5)).trans d2
    have e3 : (w6).cell? ⟨w3.heap.size, 3, none⟩ = some (.int .i64 q4) := (hb8.cell (p := ⟨w3.heap.size, 3, none⟩) (hlt5)).trans d3
    have e4 : (w6).cell? ⟨w3.heap.size, 4, none⟩ = some (.int .i32 q5) := (hb8.cell (p := ⟨w3.heap.size, 4, none⟩) (hlt5)).trans d4
    have hb9 : Below w.heap.size w w6 := hb7.trans (hb8.mono hb7.size)
    have hlt6 : w3.heap.size < w6.heap.size := Nat.lt_of_lt_of_le hlt5 hb8.size
    clear d0 d1 d2 d3 d4 hb8 hb7 hlt5 HD3
    obtain ⟨w7, hw7⟩ : ∃ w7, w7 = w6.alloc (.cells #[.int .i64 q1, .int .i64 q2, .int .i64 q3, .int .i64 q4, .int .i32 q5] 38) := ⟨_, rfl⟩
    have k0 : (w7).cell? ⟨w3.heap.size, 0, none⟩ = some (.int .i64 q1) := by rw [hw7]; exact (World.cell?_alloc_lt w6 _ _ hlt6).trans e0
    have k1 : (w7).cell? ⟨w3.heap.size, 1, none⟩ = some (.int .i64 q2) := by rw [hw7]; exact (World.cell?_alloc_lt w6 _ _ hlt6).trans e1
    have k2 : (w7).cell? ⟨w3.heap.size, 2, none⟩ = some (.int .i64 q3) := by rw [hw7]; exact (World.cell?_alloc_lt w6 _ _ hlt6).trans e2
    have k3 : (w7).cell? ⟨w3.heap.size, 3, none⟩ = some (.int .i64 q4) := by rw [hw7]; exact (World.cell?_alloc_lt w6 _ _ hlt6).trans e3
    have k4 : (w7).cell? ⟨w3.heap.size, 4, none⟩ = some (.int .i32 q5) := by rw [hw7]; exact (World.cell?_alloc_lt w6 _ _ hlt6).trans e4
    have r0 : (w7).cell? ⟨w6.heap.size, 0, none⟩ = some (.int .i64 q1) := by rw [hw7]; go_cell
    have r1 : (w7).cell? ⟨w6.heap.size, 1, none⟩ = some (.int .i64 q2) := by rw [hw7]; go_cell
    have r2 : (w7).cell? ⟨w6.heap.size, 2, none⟩ = some (.int .i64 q3) := by rw [hw7]; go_cell
    have r3 : (w7).cell? ⟨w6.heap.size, 3, none⟩ = some (.int .i64 q4) := by rw [hw7]; go_cell
    have r4 : (w7).cell? ⟨w6.heap.size, 4, none⟩ = some (.int .i32 q5) := by rw [hw7]; go_cell
    have hb10 : Below w.heap.size w w7 := by rw [hw7]; exact hb9.trans (Below.alloc (Below.refl _ _) hb9.size _)
    have HW7 := Lib.hid hw7
    clear hw7 e0 e1 e2 e3 e4 hb9 hlt6
    go_upto_region 9 with (fail)
    rw [← HW7.out]
    go_wp2_with fail
    go_ret
    exact ⟨by simp, hb10⟩
open RowB in
set_option maxRecDepth 100000 in
theorem lifted (os : Os) (started : os.Started) (H : Type) (enc : TypeId × Value → H) :
    ReturnsInHanded {} Try.checked os 6 .any (Rows.decodeBackSpec.pre6 enc Try.prog Try.f6 Rows.decodeBackRow.domain false) (Rows.decodeBackSpec.post enc Try.prog Try.f6 false true false false) := by
  refine RowB.law_lifted (C := Try.checked) (tb := 4) (by kernel_rfl) started (by kernel_rfl) (by kernel_rfl)
    (ChangeSpec.witness6 (enc := enc) (C := Try.checked) false ⟨#[], #[.int .u32 0], []⟩ 8 (by kernel_rfl) (by kernel_rfl) (by kernel_rfl) (by kernel_rfl))
    rfl (fun ds h => by match ds, h with | [_], _ => rfl) (by kernel_rfl) (by kernel_rfl) (by kernel_rfl) (of_decide_eq_true (by kernel_rfl)) ?_
  intro W base args ds ps hval hA _ hz
  have hp : (Try.f6).params.toList = [34] := by kernel_rfl
  rw [hp] at hA hz
  obtain ⟨v0, vs0, d0, ds0, p0, q0, hargs, rfl, rfl, h0, r0⟩ := ChangeShapes.trodAll_cons hA
  obtain ⟨rfl, rfl, rfl⟩ := ChangeShapes.trodAll_nil r0
  obtain rfl : args = #[v0] := by cases args; simp_all
  obtain ⟨z0, y0⟩ := weights_cons hz
  have k0 := hval 0 34 v0 (by kernel_rfl) rfl
  obtain ⟨a, rfl, rfl, rfl, wa⟩ := ChangeShapes.open_int Try.underlying34 k0 h0
  exact walk a W (Fb.wf_u32 wa)
/-- THE STATEMENT -/
theorem proved : Rows.DecodeBackSaid :=
  OpenClaim.holds_of_wide 6 Try.f6 rfl rfl rfl rfl rfl rfl rfl ⟨rfl, rfl, rfl, rfl, rfl⟩ rfl rfl rfl rfl rfl (by kernel_rfl) Try.func6 (by kernel_rfl)
    (of_decide_eq_true (by kernel_rfl)) (by unfold Func.isWrapper; first | (rw [if_pos (by decide +kernel)]; kernel_rfl) | (rw [if_neg (by decide +kernel)]; exact ⟨rfl, rfl⟩))
    (fun os started H enc _ => lifted os started H enc)
#print axioms proved
end Go.Proofs.Ytlfnddmncbkjaab.DecodeBackLaw
