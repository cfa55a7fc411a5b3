/- From how an argument reads as data to what the walks take: slices of numbers. -/
import Derived.Test.YtlfnddmncbkjaabRow
import Derived.Test.YtlfnddmncbkjaabFbStr
namespace Go.Proofs.Ytlfnddmncbkjaab.RowB
set_option linter.unusedVariables false
set_option linter.unusedSimpArgs false
open Go.ChangeShapes Go.WideShapes Go.ChangeAt Go.RowKit Fb
section
variable {H : Type} {enc : TypeId × Value → H} {P : Program} {W : World}
theorem open_nums {t e : TypeId} {k : IntKind} {v : Value} {d : DataW H} {ps : List MemPlace} (ht : P.underlying t = some (.slice e)) (he : P.underlying e = some (.int k)) (hc : P.cellsOf e = 1)
    {base : Nat} (hok : Value.okWide P W .any base t v) (h : DataW.Trod enc P W 0 (fun _ => true) true t v d ps) (hw : (d.weights P t).all (· ≤ reachBytes) = true) :
    ∃ l : List Int, Ints k W v l ∧ (∀ x ∈ l, (Lit.int k x).wf = true) ∧ l.length * P.bytesOf e ≤ reachBytes := by
  obtain ⟨a0, len, cap, rfl⟩ := okWide_slice ht hok
  obtain ⟨fuel, hf⟩ := h
  rcases open_ints ht he hc hf with ⟨hcs, hx⟩ | ⟨a, len', cap', zs, hcs, _, hl, hm, hz, hx, hcell, hwz⟩
  · simp [Value.cells] at hcs
    obtain ⟨rfl, rfl, rfl⟩ := hcs
    exact ⟨[], Sl.nil _ _, by simp, by simp⟩
  · simp [Value.cells] at hcs
    obtain ⟨rfl, rfl, rfl⟩ := hcs
    simp only [if_true] at hz
    simp only [Prod.mk.injEq] at hx
    obtain ⟨rfl, _⟩ := hx
    have hlt : (zs.take len).length = len := by simp; omega
    refine ⟨zs.take len, ⟨by simp, some a, cap, by rw [hlt], by omega, hm, by simp, ?_⟩, ?_, ?_⟩
    · intro a' ha' hne
      cases ha'
      have hpos : 0 < len := by
        rcases Nat.eq_zero_or_pos len with h0 | h0
        · subst h0; simp at hne
        · exact h0
      have h0 := hcell 0 (by omega)
      have hspot : a.spot = none := by
        have e0 : a.add 0 = a := rfl
        rw [e0] at h0
        unfold World.cell? at h0
        split at h0
        · split at h0
          · cases h0
          · rename_i hs; cases hsp : a.spot with
            | none => rfl
            | some q => rw [hsp] at hs; simp at hs
        · cases h0
      refine ⟨hspot, fun j hj => ?_⟩
      have hj2 : j < len := by rw [List.length_map, hlt] at hj; exact hj
      rw [← addr_add a hspot, hcell j (by omega)]
      simp [List.getD, show j < zs.length from by omega]
    · intro x hx
      exact hwz x (List.mem_of_mem_take hx)
    · simp only [DataW.weights, ht, List.all_cons, Bool.and_eq_true, decide_eq_true_eq] at hw
      refine Nat.le_trans (Nat.mul_le_mul_right _ ?_) hw.1
      simp [lits]
theorem open_bytes {t e : TypeId} {v : Value} {d : DataW H} {ps : List MemPlace} (ht : P.underlying t = some (.slice e)) (he : P.underlying e = some (.int .u8)) (hc : P.cellsOf e = 1) (hb : P.bytesOf e = 1)
    {base : Nat} (hok : Value.okWide P W .any base t v) (h : DataW.Trod enc P W 0 (fun _ => true) true t v d ps) (hw : (d.weights P t).all (· ≤ reachBytes) = true) :
    ∃ l : List Int, Ints .u8 W v l ∧ Bytes l ∧ l.length ≤ 140737488351232 := by
  obtain ⟨l, h1, h2, h3⟩ := open_nums ht he hc hok h hw
  rw [hb] at h3
  refine ⟨l, h1, fun x hx => wf_u8 (h2 x hx), ?_⟩
  unfold reachBytes at h3; omega
/-- the weights of the first argument, and of the others -/
theorem weights_cons {t : TypeId} {ts : List TypeId} {d : DataW H} {ds : List (DataW H)} (h : (DataW.weightsEach P (t :: ts) (d :: ds)).all (· ≤ reachBytes) = true) :
    (d.weights P t).all (· ≤ reachBytes) = true ∧ (DataW.weightsEach P ts ds).all (· ≤ reachBytes) = true := by
  simpa [DataW.weightsEach] using h
end
end Go.Proofs.Ytlfnddmncbkjaab.RowB
