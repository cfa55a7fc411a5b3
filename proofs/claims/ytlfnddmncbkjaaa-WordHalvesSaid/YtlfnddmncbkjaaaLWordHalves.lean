/- WordHalves: the upper and the lower half of a product of two words, not signed, are the product of 64 bits. No condition. -/
import Derived.Test.YtlfnddmncbkjaaaWWord
import Derived.Test.YtlfnddmncbkjaaaRow
namespace Go.Proofs.Ytlfnddmncbkjaaa.WordHalvesLaw
set_option linter.unusedVariables false
set_option linter.unusedSimpArgs false
open Go.RowKit Fb W
set_option maxHeartbeats 400000 in
theorem walk (a b : Int) (w : World) (ha : 0 ≤ a) (ha' : a < 4294967296) (hb : 0 ≤ b) (hb' : b < 4294967296) :
    Calls Try.prog 8 #[.int .u32 a, .int .u32 b] w fun e w' => e = .returned (.bool true) ∧ Below w.heap.size w w' := by
  have hE : (a * b / 4294967296 % 4294967296 * 4294967296 + a * b % 4294967296 == IntKind.u64.wrap (a * b)) = true := by
    have := halves a b ha ha' hb hb'
    rw [IntKind.wrap_u64, beq_iff_eq]; omega
  go_enter Try.func8, Try.ntmps8
  go_wp2_with fail
  refine (alu_any _ _ _ _ ha ha' hb hb').mono ?_; rintro e w1 ⟨rfl, n1, rfl⟩
  go_wp2_with fail
  refine (alu_any _ _ _ _ ha ha' hb hb').mono ?_; rintro e w1 ⟨rfl, n2, rfl⟩
  rw [alu_mulhu, alu_mul]
  go_wp2_with fail
  refine (alu_any _ _ _ _ (by omega) (by omega) (by omega) (by omega)).mono ?_; rintro e w1 ⟨rfl, n3, rfl⟩
  rw [alu_add]
  go_wp2_with fail
  go_ret
  exact ⟨rfl, below_drewN (Below.refl _ _) _⟩
set_option maxRecDepth 100000 in
theorem lifted (os : Os) (started : os.Started) (H : Type) (enc : TypeId × Value → H) :
    ReturnsInHanded {} Try.checked os 8 .any (Rows.wordHalvesSpec.pre6 enc Try.prog Try.f8 Rows.wordHalvesRow.domain false) (Rows.wordHalvesSpec.post enc Try.prog Try.f8 false true false false) := by
  refine RowB.law_lifted (C := Try.checked) (tb := 4) (by kernel_rfl) started (by kernel_rfl) (by kernel_rfl)
    (ChangeSpec.witness6 (enc := enc) (C := Try.checked) false ⟨#[], #[.int .u32 0, .int .u32 0], []⟩ 8 (by kernel_rfl) (by kernel_rfl) (by kernel_rfl) (by kernel_rfl))
    rfl (fun ds h => by match ds, h with | [_, _], _ => rfl) (by kernel_rfl) (by kernel_rfl) (by kernel_rfl) (of_decide_eq_true (by kernel_rfl)) ?_
  intro W base args ds ps hval hA _ _
  have hp : (Try.f8).params.toList = [33, 33] := by kernel_rfl
  rw [hp] at hA
  obtain ⟨v0, v1, d0, d1, p0, p1, rfl, rfl, rfl, h0, h1⟩ := ChangeShapes.trodAll_two hA
  obtain ⟨a, rfl, rfl, rfl, wa⟩ := ChangeShapes.open_int Try.underlying33 (hval 0 33 v0 (by kernel_rfl) rfl) h0
  obtain ⟨b, rfl, rfl, rfl, wb⟩ := ChangeShapes.open_int Try.underlying33 (hval 1 33 v1 (by kernel_rfl) rfl) h1
  have ha := Fb.wf_u32 wa
  have hb := Fb.wf_u32 wb
  exact walk a b W ha.1 ha.2 hb.1 hb.2
/-- THE STATEMENT -/
theorem proved : Rows.WordHalvesSaid :=
  OpenClaim.holds_of_wide 8 Try.f8 rfl rfl rfl rfl rfl rfl rfl ⟨rfl, rfl, rfl, rfl, rfl⟩ rfl rfl rfl rfl rfl (by kernel_rfl) Try.func8 (by kernel_rfl)
    (of_decide_eq_true (by kernel_rfl)) (by unfold Func.isWrapper; first | (rw [if_pos (by decide +kernel)]; kernel_rfl) | (rw [if_neg (by decide +kernel)]; exact ⟨rfl, rfl⟩))
    (fun os started H enc _ => lifted os started H enc)
#print axioms proved
end Go.Proofs.Ytlfnddmncbkjaaa.WordHalvesLaw
