/- WordDivides: for every two words what is divided is what it comes to, times by what, and what is left over; signed and not. No condition. -/
import Derived.Test.YtlfnddmncbkjaaaWWord
import Derived.Test.YtlfnddmncbkjaaaRow
namespace Go.Proofs.Ytlfnddmncbkjaaa.WordDividesLaw
set_option linter.unusedVariables false
set_option linter.unusedSimpArgs false
open Go.RowKit Fb W
set_option maxHeartbeats 400000 in
theorem walk (a b : Int) (w : World) (ha : U32 a) (hb : U32 b) :
    Calls Try.prog 7 #[.int .u32 a, .int .u32 b] w fun e w' => e = .returned (.bool true) ∧ Below w.heap.size w w' := by
  have A := fun op W => alu_any op a b W ha.1 ha.2 hb.1 hb.2
  have AH := Lib.hid A
  clear A
  by_cases h0 : b = 0
  · subst h0
    go_enter Try.func7, Try.ntmps7
    go_wp2_with fail
    refine (AH.out _ _).mono ?_; rintro e w1 ⟨rfl, n1, rfl⟩
    go_wp2_with fail
    refine (AH.out _ _).mono ?_; rintro e w1 ⟨rfl, n2, rfl⟩
    go_wp2_with fail
    refine (AH.out _ _).mono ?_; rintro e w1 ⟨rfl, n3, rfl⟩
    go_wp2_with fail
    refine (AH.out _ _).mono ?_; rintro e w1 ⟨rfl, n4, rfl⟩
    rw [alu_div0, alu_divu0, alu_rem0 a ha, alu_remu0]
    go_wp2_with fail
    go_ret
    exact ⟨rfl, below_drewN (Below.refl _ _) _⟩
  · have hq := alu_lo 43 a b ha hb
    have hr := alu_lo 45 a b ha hb
    have hs := alu_lo 42 a b ha hb
    have ht := alu_lo 44 a b ha hb
    have e1 := divu_back a b ha hb h0
    have e2 := div_back a b ha hb h0
    have e3 : alu 43 a b = a / b := by rw [alu_divu, if_neg h0]
    have e4 : alu 45 a b = a % b := by rw [alu_remu, if_neg h0]
    have hlt : alu 45 a b < b := by
      rw [e4]; exact Int.emod_lt_of_pos a (by have := hb.1; omega)
    rw [← alu_div, ← alu_rem] at e2
    rw [← e3, ← e4] at e1
    have hz : (b == 0) = false := by simpa using h0
    clear e3 e4
    have E1 := Lib.hid e1
    have E2 := Lib.hid e2
    clear e1 e2 h0
    go_enter Try.func7, Try.ntmps7
    go_wp2_with fail
    refine (AH.out _ _).mono ?_; rintro e w1 ⟨rfl, n1, rfl⟩
    go_wp2_with fail
    refine (AH.out _ _).mono ?_; rintro e w1 ⟨rfl, n2, rfl⟩
    go_wp2_with fail
    refine (AH.out _ _).mono ?_; rintro e w1 ⟨rfl, n3, rfl⟩
    go_wp2_with fail
    refine (AH.out _ _).mono ?_; rintro e w1 ⟨rfl, n4, rfl⟩
    generalize alu 43 a b = q at *
    generalize alu 45 a b = r at *
    generalize alu 42 a b = s at *
    generalize alu 44 a b = t at *
    go_wp2_with fail
    refine (alu_any _ _ _ _ hq.1 hq.2 hb.1 hb.2).mono ?_; rintro e w1 ⟨rfl, n5, rfl⟩
    have h5 := alu_lo 38 q b hq hb
    go_wp2_with fail
    refine (alu_any _ _ _ _ h5.1 h5.2 hr.1 hr.2).mono ?_; rintro e w1 ⟨rfl, n6, rfl⟩
    go_wp2_with fail
    refine (alu_any _ _ _ _ hs.1 hs.2 hb.1 hb.2).mono ?_; rintro e w1 ⟨rfl, n7, rfl⟩
    have h7 := alu_lo 38 s b hs hb
    go_wp2_with fail
    refine (alu_any _ _ _ _ h7.1 h7.2 ht.1 ht.2).mono ?_; rintro e w1 ⟨rfl, n8, rfl⟩
    rw [alu_mul, alu_mul, alu_add, alu_add, E1.out, E2.out]
    go_wp2_with fail
    refine (alu_any _ _ _ _ hr.1 hr.2 hb.1 hb.2).mono ?_; rintro e w1 ⟨rfl, n9, rfl⟩
    rw [alu_sltu, if_pos hlt]
    go_wp2_with fail
    go_ret
    exact ⟨rfl, below_drewN (Below.refl _ _) _⟩
set_option maxRecDepth 100000 in
theorem lifted (os : Os) (started : os.Started) (H : Type) (enc : TypeId × Value → H) :
    ReturnsInHanded {} Try.checked os 7 .any (Rows.wordDividesSpec.pre6 enc Try.prog Try.f7 Rows.wordDividesRow.domain false) (Rows.wordDividesSpec.post enc Try.prog Try.f7 false true false false) := by
  refine RowB.law_lifted (C := Try.checked) (tb := 4) (by kernel_rfl) started (by kernel_rfl) (by kernel_rfl)
    (ChangeSpec.witness6 (enc := enc) (C := Try.checked) false ⟨#[], #[.int .u32 0, .int .u32 0], []⟩ 8 (by kernel_rfl) (by kernel_rfl) (by kernel_rfl) (by kernel_rfl))
    rfl (fun ds h => by match ds, h with | [_, _], _ => rfl) (by kernel_rfl) (by kernel_rfl) (by kernel_rfl) (of_decide_eq_true (by kernel_rfl)) ?_
  intro W base args ds ps hval hA _ _
  have hp : (Try.f7).params.toList = [33, 33] := by kernel_rfl
  rw [hp] at hA
  obtain ⟨v0, v1, d0, d1, p0, p1, rfl, rfl, rfl, h0, h1⟩ := ChangeShapes.trodAll_two hA
  obtain ⟨a, rfl, rfl, rfl, wa⟩ := ChangeShapes.open_int Try.underlying33 (hval 0 33 v0 (by kernel_rfl) rfl) h0
  obtain ⟨b, rfl, rfl, rfl, wb⟩ := ChangeShapes.open_int Try.underlying33 (hval 1 33 v1 (by kernel_rfl) rfl) h1
  exact walk a b W (Fb.wf_u32 wa) (Fb.wf_u32 wb)
/-- THE STATEMENT -/
theorem proved : Rows.WordDividesSaid :=
  OpenClaim.holds_of_wide 7 Try.f7 rfl rfl rfl rfl rfl rfl rfl ⟨rfl, rfl, rfl, rfl, rfl⟩ rfl rfl rfl rfl rfl (by kernel_rfl) Try.func7 (by kernel_rfl)
    (of_decide_eq_true (by kernel_rfl)) (by unfold Func.isWrapper; first | (rw [if_pos (by decide +kernel)]; kernel_rfl) | (rw [if_neg (by decide +kernel)]; exact ⟨rfl, rfl⟩))
    (fun os started H enc _ => lifted os started H enc)
#print axioms proved
end Go.Proofs.Ytlfnddmncbkjaaa.WordDividesLaw
