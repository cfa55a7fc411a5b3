/- WordTells: for every operation, known or not, and any two words, the program tells what comes of them, whether a branch holds, and what a word in memory becomes, as the document's answer does. No condition. -/
import Derived.Test.YtlfnddmncbkjaabWWord
import Derived.Test.YtlfnddmncbkjaabWRef1Rest
import Derived.Test.YtlfnddmncbkjaabOpen
namespace Go.Proofs.Ytlfnddmncbkjaab.WordTellsLaw
set_option linter.unusedVariables false
set_option linter.unusedSimpArgs false
open Go.RowKit Fb W
set_option maxHeartbeats 400000 in
theorem walk (op a b : Int) (w : World) (ha : 0 ≤ a) (ha' : a < 4294967296) (hb : 0 ≤ b) (hb' : b < 4294967296) :
    Calls Try.prog 4 #[.int .i64 op, .int .u32 a, .int .u32 b] w fun e w' => e = .returned (.bool true) ∧ Below w.heap.size w w' := by
  go_enter Try.func4, Try.ntmps4
  go_wp2_with fail
  refine (alu_any _ _ _ _ ha ha' hb hb').mono ?_; rintro e w1 ⟨rfl, n1, rfl⟩
  go_wp2_with fail
  refine (holds_any _ _ _ _ ha ha' hb hb').mono ?_; rintro e w1 ⟨rfl, rfl⟩
  go_wp2_with fail
  refine (amo_any _ _ _ _ ha ha' hb hb').mono ?_; rintro e w1 ⟨rfl, rfl⟩
  go_wp2_with fail
  refine (alu1_any _ _ _ _ ha ha' hb hb').mono ?_; rintro e w1 ⟨rfl, n2, rfl⟩
  go_wp2_with fail
  refine (holds1_any _ _ _ _ ha ha' hb hb').mono ?_; rintro e w1 ⟨rfl, rfl⟩
  go_wp2_with fail
  refine (amo1_any _ _ _ _ ha ha' hb hb').mono ?_; rintro e w1 ⟨rfl, n3, rfl⟩
  go_wp2_with fail
  go_ret
  exact ⟨by simp, below_drewN (Below.refl _ _) _⟩
open RowB in
set_option maxRecDepth 100000 in
theorem lifted (os : Os) (started : os.Started) (H : Type) (enc : TypeId × Value → H) :
    ReturnsInHanded {} Try.checked os 4 .any (Rows.wordTellsSpec.pre6 enc Try.prog Try.f4 Rows.wordTellsRow.domain false) (Rows.wordTellsSpec.post enc Try.prog Try.f4 false true false false) := by
  refine RowB.law_lifted (C := Try.checked) (tb := 4) (by kernel_rfl) started (by kernel_rfl) (by kernel_rfl)
    (ChangeSpec.witness6 (enc := enc) (C := Try.checked) false ⟨#[], #[.int .i64 0, .int .u32 0, .int .u32 0], []⟩ 8 (by kernel_rfl) (by kernel_rfl) (by kernel_rfl) (by kernel_rfl))
    rfl (fun ds h => by match ds, h with | [_, _, _], _ => rfl) (by kernel_rfl) (by kernel_rfl) (by kernel_rfl) (of_decide_eq_true (by kernel_rfl)) ?_
  intro W base args ds ps hval hA _ hz
  have hp : (Try.f4).params.toList = [3, 34, 34] := by kernel_rfl
  rw [hp] at hA hz
  obtain ⟨v0, vs0, d0, ds0, p0, q0, hargs, rfl, rfl, h0, r0⟩ := ChangeShapes.trodAll_cons hA
  obtain ⟨v1, vs1, d1, ds1, p1, q1, rfl, rfl, rfl, h1, r1⟩ := ChangeShapes.trodAll_cons r0
  obtain ⟨v2, vs2, d2, ds2, p2, q2, rfl, rfl, rfl, h2, r2⟩ := ChangeShapes.trodAll_cons r1
  obtain ⟨rfl, rfl, rfl⟩ := ChangeShapes.trodAll_nil r2
  obtain rfl : args = #[v0, v1, v2] := by cases args; simp_all
  obtain ⟨z0, y0⟩ := weights_cons hz
  obtain ⟨z1, y1⟩ := weights_cons y0
  obtain ⟨z2, y2⟩ := weights_cons y1
  have k0 := hval 0 3 v0 (by kernel_rfl) rfl
  have k1 := hval 1 34 v1 (by kernel_rfl) rfl
  have k2 := hval 2 34 v2 (by kernel_rfl) rfl
  obtain ⟨op, rfl, rfl, rfl, wo⟩ := ChangeShapes.open_int Try.underlying3 k0 h0
  obtain ⟨a, rfl, rfl, rfl, wa⟩ := ChangeShapes.open_int Try.underlying34 k1 h1
  obtain ⟨b, rfl, rfl, rfl, wb⟩ := ChangeShapes.open_int Try.underlying34 k2 h2
  exact walk op a b W (Fb.wf_u32 wa).1 (Fb.wf_u32 wa).2 (Fb.wf_u32 wb).1 (Fb.wf_u32 wb).2
/-- THE STATEMENT -/
theorem proved : Rows.WordTellsSaid :=
  OpenClaim.holds_of_wide 4 Try.f4 rfl rfl rfl rfl rfl rfl rfl ⟨rfl, rfl, rfl, rfl, rfl⟩ rfl rfl rfl rfl rfl (by kernel_rfl) Try.func4 (by kernel_rfl)
    (of_decide_eq_true (by kernel_rfl)) (by unfold Func.isWrapper; first | (rw [if_pos (by decide +kernel)]; kernel_rfl) | (rw [if_neg (by decide +kernel)]; exact ⟨rfl, rfl⟩))
    (fun os started H enc _ => lifted os started H enc)
#print axioms proved
end Go.Proofs.Ytlfnddmncbkjaab.WordTellsLaw
