/- DecodeTells: for every word the program tells its instruction, or that it is none, as the document's answer does. No condition. -/
import Derived.Test.YtlfnddmncbkjaaaWDecode
import Derived.Test.YtlfnddmncbkjaaaWDecode2
import Derived.Test.YtlfnddmncbkjaaaOpen
namespace Go.Proofs.Ytlfnddmncbkjaaa.DecodeTellsLaw
set_option linter.unusedVariables false
set_option linter.unusedSimpArgs false
open Go.RowKit Fb W
set_option maxRecDepth 100000 in
set_option maxHeartbeats 400000 in
theorem walk (x : Int) (w : World) (hx : U32 x) :
    Calls Try.prog 11 #[.int .u32 x] w fun e w' => e = .returned (.bool true) ∧ Below w.heap.size w w' := by
  have HX := Lib.hid hx
  have HD := Lib.hid (fun W => decode_any x W hx)
  have HD2 := Lib.hid (fun W => decode2_any x W hx)
  clear hx
  generalize (dec x).getD i0 = i at *
  generalize (dec x).isSome = b at *
  obtain ⟨q1, q2, q3, q4, q5⟩ := i
  simp only [icells] at *
  go_enter Try.func11, Try.ntmps11
  go_wp2_with fail
  refine (HD.out _).mono ?_
  rintro e w1 ⟨rfl, hb1⟩
  go_wp2_with fail
  refine (HD2.out _).mono ?_
  rintro e w2 ⟨rfl, hb2⟩
  have hz : w1.heap.size + 1 ≤ w2.heap.size := by have := hb2.size; simpa using this
  have c1 := (hb2.cell (p := ⟨w1.heap.size, 0, none⟩) (by simp)).trans (show _ = some (.int .i64 q1) by go_cell)
  have c2 := (hb2.cell (p := ⟨w1.heap.size, 1, none⟩) (by simp)).trans (show _ = some (.int .i64 q2) by go_cell)
  have c3 := (hb2.cell (p := ⟨w1.heap.size, 2, none⟩) (by simp)).trans (show _ = some (.int .i64 q3) by go_cell)
  have c4 := (hb2.cell (p := ⟨w1.heap.size, 3, none⟩) (by simp)).trans (show _ = some (.int .i64 q4) by go_cell)
  have c5 := (hb2.cell (p := ⟨w1.heap.size, 4, none⟩) (by simp)).trans (show _ = some (.int .i32 q5) by go_cell)
  have hb3 : Below w.heap.size w w2 := hb1.trans (Below.trans (Below.alloc (Below.refl _ _) hb1.size _) (hb2.mono (by have := hb1.size; simp; omega)))
  have hg : Try.prog.eqGuardType Try.prog.depth 54 = false := by kernel_rfl
  have hlt : w1.heap.size < w2.heap.size := by omega
  have d1 := (World.cell?_alloc_lt w2 (.cells #[.int .i64 q1, .int .i64 q2, .int .i64 q3, .int .i64 q4, .int .i32 q5] 54) ⟨w1.heap.size, 0, none⟩ hlt).trans c1
  have d2 := (World.cell?_alloc_lt w2 (.cells #[.int .i64 q1, .int .i64 q2, .int .i64 q3, .int .i64 q4, .int .i32 q5] 54) ⟨w1.heap.size, 1, none⟩ hlt).trans c2
  have d3 := (World.cell?_alloc_lt w2 (.cells #[.int .i64 q1, .int .i64 q2, .int .i64 q3, .int .i64 q4, .int .i32 q5] 54) ⟨w1.heap.size, 2, none⟩ hlt).trans c3
  have d4 := (World.cell?_alloc_lt w2 (.cells #[.int .i64 q1, .int .i64 q2, .int .i64 q3, .int .i64 q4, .int .i32 q5] 54) ⟨w1.heap.size, 3, none⟩ hlt).trans c4
  have d5 := (World.cell?_alloc_lt w2 (.cells #[.int .i64 q1, .int .i64 q2, .int .i64 q3, .int .i64 q4, .int .i32 q5] 54) ⟨w1.heap.size, 4, none⟩ hlt).trans c5
  clear hb1 hb2 c1 c2 c3 c4 c5 hz hlt
  go_wp2_with fail
  go_ret
  exact ⟨by simp, hb3.trans (Below.alloc (Below.refl _ _) hb3.size _)⟩
open RowB in
set_option maxRecDepth 100000 in
theorem lifted (os : Os) (started : os.Started) (H : Type) (enc : TypeId × Value → H) :
    ReturnsInHanded {} Try.checked os 11 .any (Rows.decodeTellsSpec.pre6 enc Try.prog Try.f11 Rows.decodeTellsRow.domain false) (Rows.decodeTellsSpec.post enc Try.prog Try.f11 false true false false) := by
  refine RowB.law_lifted (C := Try.checked) (tb := 4) (by kernel_rfl) started (by kernel_rfl) (by kernel_rfl)
    (ChangeSpec.witness6 (enc := enc) (C := Try.checked) false ⟨#[], #[.int .u32 0], []⟩ 8 (by kernel_rfl) (by kernel_rfl) (by kernel_rfl) (by kernel_rfl))
    rfl (fun ds h => by match ds, h with | [_], _ => rfl) (by kernel_rfl) (by kernel_rfl) (by kernel_rfl) (of_decide_eq_true (by kernel_rfl)) ?_
  intro W base args ds ps hval hA _ hz
  have hp : (Try.f11).params.toList = [33] := by kernel_rfl
  rw [hp] at hA hz
  obtain ⟨v0, vs0, d0, ds0, p0, q0, hargs, rfl, rfl, h0, r0⟩ := ChangeShapes.trodAll_cons hA
  obtain ⟨rfl, rfl, rfl⟩ := ChangeShapes.trodAll_nil r0
  obtain rfl : args = #[v0] := by cases args; simp_all
  obtain ⟨z0, y0⟩ := weights_cons hz
  have k0 := hval 0 33 v0 (by kernel_rfl) rfl
  obtain ⟨a, rfl, rfl, rfl, wa⟩ := ChangeShapes.open_int Try.underlying33 k0 h0
  exact walk a W (Fb.wf_u32 wa)
/-- THE STATEMENT -/
theorem proved : Rows.DecodeTellsSaid :=
  OpenClaim.holds_of_wide 11 Try.f11 rfl rfl rfl rfl rfl rfl rfl ⟨rfl, rfl, rfl, rfl, rfl⟩ rfl rfl rfl rfl rfl (by kernel_rfl) Try.func11 (by kernel_rfl)
    (of_decide_eq_true (by kernel_rfl)) (by unfold Func.isWrapper; first | (rw [if_pos (by decide +kernel)]; kernel_rfl) | (rw [if_neg (by decide +kernel)]; exact ⟨rfl, rfl⟩))
    (fun os started H enc _ => lifted os started H enc)
#print axioms proved
end Go.Proofs.Ytlfnddmncbkjaaa.DecodeTellsLaw
