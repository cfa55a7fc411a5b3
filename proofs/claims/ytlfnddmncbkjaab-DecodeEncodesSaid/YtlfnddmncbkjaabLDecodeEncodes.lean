/- DecodeEncodes: for every instruction, such as may not be among them, the program tells a word that is it, or that there is none. No condition. -/
import Derived.Test.YtlfnddmncbkjaabWEncode2
import Derived.Test.YtlfnddmncbkjaabWIs
import Derived.Test.YtlfnddmncbkjaabWDecode2
import Derived.Test.YtlfnddmncbkjaabOpenIns
namespace Go.Proofs.Ytlfnddmncbkjaab.DecodeEncodesLaw
set_option linter.unusedVariables false
set_option linter.unusedSimpArgs false
open Go.RowKit Fb W
set_option maxRecDepth 100000 in
set_option maxHeartbeats 400000 in
theorem walk (i : InsD) (w : World) (wf : I32 i.imm) :
    Calls Try.prog 5 #[.agg (icells i)] w fun e w' => e = .returned (.bool true) ∧ Below w.heap.size w w' := by
  have HE := Lib.hid (fun W => encode_any i W wf)
  have HI := Lib.hid (fun W => is2_any i W wf)
  have HD := Lib.hid (fun W => decode2_any (encW i) W (encK_u _ _ _ _ _))
  have HS : Hid (isS i = true → dec (encW i) = some i) := Lib.hid (fun h => enc_dec i h wf)
  clear wf
  generalize encW i = c at *
  generalize isS i = b at *
  obtain ⟨q1, q2, q3, q4, q5⟩ := i
  simp only [icells] at *
  have hg : Try.prog.eqGuardType Try.prog.depth 38 = false := by kernel_rfl
  cases b with
  | false =>
    rw [if_neg (by decide), if_neg (by decide)] at HE
    go_enter Try.func5, Try.ntmps5
    go_wp2_with fail
    refine (HE.out _).mono ?_
    rintro e w1 ⟨rfl, hb1⟩
    have hlt1 : w.heap.size < w1.heap.size := by have := hb1.size; simp at this; omega
    have hblk := (hb1.block w.heap.size (by simp)).trans (heap_alloc_new w (.cells #[.int .i64 q1, .int .i64 q2, .int .i64 q3, .int .i64 q4, .int .i32 q5] 38))
    have c0 : (w1).cell? ⟨w.heap.size, 0, none⟩ = some (.int .i64 q1) := cell_blk hblk rfl
    have c1 : (w1).cell? ⟨w.heap.size, 1, none⟩ = some (.int .i64 q2) := cell_blk hblk rfl
    have c2 : (w1).cell? ⟨w.heap.size, 2, none⟩ = some (.int .i64 q3) := cell_blk hblk rfl
    have c3 : (w1).cell? ⟨w.heap.size, 3, none⟩ = some (.int .i64 q4) := cell_blk hblk rfl
    have c4 : (w1).cell? ⟨w.heap.size, 4, none⟩ = some (.int .i32 q5) := cell_blk hblk rfl
    have hb2 : Below w.heap.size w w1 := Below.trans (Below.alloc (Below.refl _ _) (Nat.le_refl _) _) (hb1.mono (by simp))
    clear hb1 HE hblk
    go_wp2_with fail
    refine (HI.out _).mono ?_
    rintro e w2 ⟨rfl, hb3⟩
    have d0 : (w2).cell? ⟨w.heap.size, 0, none⟩ = some (.int .i64 q1) := (hb3.cell (p := ⟨w.heap.size, 0, none⟩) (hlt1)).trans c0
    have d1 : (w2).cell? ⟨w.heap.size, 1, none⟩ = some (.int .i64 q2) := (hb3.cell (p := ⟨w.heap.size, 1, none⟩) (hlt1)).trans c1
    have d2 : (w2).cell? ⟨w.heap.size, 2, none⟩ = some (.int .i64 q3) := (hb3.cell (p := ⟨w.heap.size, 2, none⟩) (hlt1)).trans c2
    have d3 : (w2).cell? ⟨w.heap.size, 3, none⟩ = some (.int .i64 q4) := (hb3.cell (p := ⟨w.heap.size, 3, none⟩) (hlt1)).trans c3
    have d4 : (w2).cell? ⟨w.heap.size, 4, none⟩ = some (.int .i32 q5) := (hb3.cell (p := ⟨w.heap.size, 4, none⟩) (hlt1)).trans c4
    have hb4 : Below w.heap.size w w2 := hb2.trans (hb3.mono (Nat.le_of_lt hlt1))
    have hlt2 : w.heap.size < w2.heap.size := Nat.lt_of_lt_of_le hlt1 hb3.size
    clear c0 c1 c2 c3 c4 hb3 hb2 hlt1 HI
    go_wp2_with fail
    go_ret
    exact ⟨rfl, hb4⟩
  | true =>
    rw [if_pos rfl, if_pos rfl] at HE
    go_enter Try.func5, Try.ntmps5
    go_wp2_with fail
    refine (HE.out _).mono ?_
    rintro e w1 ⟨rfl, hb1⟩
    have hlt1 : w.heap.size < w1.heap.size := by have := hb1.size; simp at this; omega
    have hblk := (hb1.block w.heap.size (by simp)).trans (heap_alloc_new w (.cells #[.int .i64 q1, .int .i64 q2, .int .i64 q3, .int .i64 q4, .int .i32 q5] 38))
    have c0 : (w1).cell? ⟨w.heap.size, 0, none⟩ = some (.int .i64 q1) := cell_blk hblk rfl
    have c1 : (w1).cell? ⟨w.heap.size, 1, none⟩ = some (.int .i64 q2) := cell_blk hblk rfl
    have c2 : (w1).cell? ⟨w.heap.size, 2, none⟩ = some (.int .i64 q3) := cell_blk hblk rfl
    have c3 : (w1).cell? ⟨w.heap.size, 3, none⟩ = some (.int .i64 q4) := cell_blk hblk rfl
    have c4 : (w1).cell? ⟨w.heap.size, 4, none⟩ = some (.int .i32 q5) := cell_blk hblk rfl
    have hb2 : Below w.heap.size w w1 := Below.trans (Below.alloc (Below.refl _ _) (Nat.le_refl _) _) (hb1.mono (by simp))
    clear hb1 HE hblk
    go_wp2_with fail
    refine (HI.out _).mono ?_
    rintro e w2 ⟨rfl, hb3⟩
    have d0 : (w2).cell? ⟨w.heap.size, 0, none⟩ = some (.int .i64 q1) := (hb3.cell (p := ⟨w.heap.size, 0, none⟩) (hlt1)).trans c0
    have d1 : (w2).cell? ⟨w.heap.size, 1, none⟩ = some (.int .i64 q2) := (hb3.cell (p := ⟨w.heap.size, 1, none⟩) (hlt1)).trans c1
    have d2 : (w2).cell? ⟨w.heap.size, 2, none⟩ = some (.int .i64 q3) := (hb3.cell (p := ⟨w.heap.size, 2, none⟩) (hlt1)).trans c2
    have d3 : (w2).cell? ⟨w.heap.size, 3, none⟩ = some (.int .i64 q4) := (hb3.cell (p := ⟨w.heap.size, 3, none⟩) (hlt1)).trans c3
    have d4 : (w2).cell? ⟨w.heap.size, 4, none⟩ = some (.int .i32 q5) := (hb3.cell (p := ⟨w.heap.size, 4, none⟩) (hlt1)).trans c4
    have hb4 : Below w.heap.size w w2 := hb2.trans (hb3.mono (Nat.le_of_lt hlt1))
    have hlt2 : w.heap.size < w2.heap.size := Nat.lt_of_lt_of_le hlt1 hb3.size
    clear c0 c1 c2 c3 c4 hb3 hb2 hlt1 HI
    have hs := HS.out (by first | rfl | trivial)
    rw [hs] at HD
    clear hs HS
    simp only [Option.getD_some, Option.isSome_some] at HD
    go_wp2_with fail
    refine (HD.out _).mono ?_
    rintro e w3 ⟨rfl, hb5⟩
    have e0 : (w3).cell? ⟨w.heap.size, 0, none⟩ = some (.int .i64 q1) := (hb5.cell (p := ⟨w.heap.size, 0, none⟩) (hlt2)).trans d0
    have e1 : (w3).cell? ⟨w.heap.size, 1, none⟩ = some (.int .i64 q2) := (hb5.cell (p := ⟨w.heap.size, 1, none⟩) (hlt2)).trans d1
    have e2 : (w3).cell? ⟨w.heap.size, 2, none⟩ = some (.int .i64 q3) := (hb5.cell (p := ⟨w.heap.size, 2, none⟩) (hlt2)).trans d2
    have e3 : (w3).cell? ⟨w.heap.size, 3, none⟩ = some (.int .i64 q4) := (hb5.cell (p := ⟨w.heap.size, 3, none⟩) (hlt2)).trans d3
    have e4 : (w3).cell? ⟨w.heap.size, 4, none⟩ = some (.int .i32 q5) := (hb5.cell (p := ⟨w.heap.size, 4, none⟩) (hlt2)).trans d4
    have hb6 : Below w.heap.size w w3 := hb4.trans (hb5.mono (Nat.le_of_lt hlt2))
    have hlt3 : w.heap.size < w3.heap.size := Nat.lt_of_lt_of_le hlt2 hb5.size
    clear d0 d1 d2 d3 d4 hb5 hb4 hlt2 HD
    obtain ⟨w4, hw4⟩ : ∃ w4, w4 = w3.alloc (.cells #[.int .i64 q1, .int .i64 q2, .int .i64 q3, .int .i64 q4, .int .i32 q5] 38) := ⟨_, rfl⟩
    have k0 : (w4).cell? ⟨w.heap.size, 0, none⟩ = some (.int .i64 q1) := by rw [hw4]; exact (World.cell?_alloc_lt w3 _ _ hlt3).trans e0
    have k1 : (w4).cell? ⟨w.heap.size, 1, none⟩ = some (.int .i64 q2) := by rw [hw4]; exact (World.cell?_alloc_lt w3 _ _ hlt3).trans e1
    have k2 : (w4).cell? ⟨w.heap.size, 2, none⟩ = some (.int .i64 q3) := by rw [hw4]; exact (World.cell?_alloc_lt w3 _ _ hlt3).trans e2
    have k3 : (w4).cell? ⟨w.heap.size, 3, none⟩ = some (.int .i64 q4) := by rw [hw4]; exact (World.cell?_alloc_lt w3 _ _ hlt3).trans e3
    have k4 : (w4).cell? ⟨w.heap.size, 4, none⟩ = some (.int .i32 q5) := by rw [hw4]; exact (World.cell?_alloc_lt w3 _ _ hlt3).trans e4
    have r0 : (w4).cell? ⟨w3.heap.size, 0, none⟩ = some (.int .i64 q1) := by rw [hw4]; go_cell
    have r1 : (w4).cell? ⟨w3.heap.size, 1, none⟩ = some (.int .i64 q2) := by rw [hw4]; go_cell
    have r2 : (w4).cell? ⟨w3.heap.size, 2, none⟩ = some (.int .i64 q3) := by rw [hw4]; go_cell
    have r3 : (w4).cell? ⟨w3.heap.size, 3, none⟩ = some (.int .i64 q4) := by rw [hw4]; go_cell
    have r4 : (w4).cell? ⟨w3.heap.size, 4, none⟩ = some (.int .i32 q5) := by rw [hw4]; go_cell
    have hb7 : Below w.heap.size w w4 := by rw [hw4]; exact hb6.trans (Below.alloc (Below.refl _ _) (Nat.le_of_lt hlt3) _)
    have HW4 := Lib.hid hw4
    clear hw4 e0 e1 e2 e3 e4 hb6 hlt3
    go_upto_region 5 with (fail)
    rw [← HW4.out]
    go_wp2_with fail
    go_ret
    exact ⟨by simp, hb7⟩
open RowB in
set_option maxRecDepth 100000 in
theorem lifted (os : Os) (started : os.Started) (H : Type) (enc : TypeId × Value → H) :
    ReturnsInHanded {} Try.checked os 5 .any (Rows.decodeEncodesSpec.pre6 enc Try.prog Try.f5 Rows.decodeEncodesRow.domain false) (Rows.decodeEncodesSpec.post enc Try.prog Try.f5 false true false false) := by
  refine RowB.law_lifted (C := Try.checked) (tb := 4) (by kernel_rfl) started (by kernel_rfl) (by kernel_rfl)
    (ChangeSpec.witness6 (enc := enc) (C := Try.checked) false ⟨#[], #[.agg #[.int .i64 0, .int .i64 0, .int .i64 0, .int .i64 0, .int .i32 0]], []⟩ 8 (by kernel_rfl) (by kernel_rfl) (by kernel_rfl) (by kernel_rfl))
    rfl (fun ds h => by match ds, h with | [_], _ => rfl) (by kernel_rfl) (by kernel_rfl) (by kernel_rfl) (of_decide_eq_true (by kernel_rfl)) ?_
  intro W base args ds ps hval hA _ hz
  have hp : (Try.f5).params.toList = [38] := by kernel_rfl
  rw [hp] at hA hz
  obtain ⟨v0, vs0, d0, ds0, p0, q0, hargs, rfl, rfl, h0, r0⟩ := ChangeShapes.trodAll_cons hA
  obtain ⟨rfl, rfl, rfl⟩ := ChangeShapes.trodAll_nil r0
  obtain rfl : args = #[v0] := by cases args; simp_all
  obtain ⟨z0, y0⟩ := weights_cons hz
  have k0 := hval 0 38 v0 (by kernel_rfl) rfl
  obtain ⟨i, rfl, wf⟩ := opens_ins.arg Try.underlying38 k0 h0 z0
  exact walk i W wf.imm
/-- THE STATEMENT -/
theorem proved : Rows.DecodeEncodesSaid :=
  OpenClaim.holds_of_wide 5 Try.f5 rfl rfl rfl rfl rfl rfl rfl ⟨rfl, rfl, rfl, rfl, rfl⟩ rfl rfl rfl rfl rfl (by kernel_rfl) Try.func5 (by kernel_rfl)
    (of_decide_eq_true (by kernel_rfl)) (by unfold Func.isWrapper; first | (rw [if_pos (by decide +kernel)]; kernel_rfl) | (rw [if_neg (by decide +kernel)]; exact ⟨rfl, rfl⟩))
    (fun os started H enc _ => lifted os started H enc)
#print axioms proved
end Go.Proofs.Ytlfnddmncbkjaab.DecodeEncodesLaw
