/- Rows of bytes as texts. No program in sight. -/
import Derived.Test.YtlfnddmncbkjaabFbSlice
import Derived.Laws.BytesArg
import Derived.ShutString
namespace Go.Proofs.Ytlfnddmncbkjaab.Fb
set_option linter.unusedVariables false
set_option linter.unusedSimpArgs false
open Go.RowKit

def Bytes (l : List Int) : Prop := ∀ x ∈ l, 0 ≤ x ∧ x < 256
theorem Bytes.getD {l : List Int} (h : Bytes l) (i : Nat) : 0 ≤ l.getD i 0 ∧ l.getD i 0 < 256 := by
  by_cases hi : i < l.length
  · rw [List.getD, List.getElem?_eq_getElem hi]; exact h _ (List.getElem_mem hi)
  · rw [List.getD, List.getElem?_eq_none (by omega)]; simp
theorem Bytes.of_getD {l : List Int} (h : ∀ i, 0 ≤ l.getD i 0 ∧ l.getD i 0 < 256) : Bytes l := by
  intro x hx
  obtain ⟨i, hi, rfl⟩ := List.getElem_of_mem hx
  have := h i
  rwa [List.getD, List.getElem?_eq_getElem hi] at this
theorem strOf_inj {l l' : List Int} (h : Bytes l) (h' : Bytes l') (e : strOfNums l = strOfNums l') : l = l' := by
  have e2 : (strOfNums l).data.toList = (strOfNums l').data.toList := by rw [e]
  rw [strOfNums_data, strOfNums_data] at e2
  clear e
  induction l generalizing l' with
  | nil => cases l' with
    | nil => rfl
    | cons y r => simp at e2
  | cons x r ih => cases l' with
    | nil => simp at e2
    | cons y r' =>
      simp only [List.map_cons, List.cons.injEq] at e2
      have hx := h x (by simp)
      have hy := h' y (by simp)
      have e3 := congrArg UInt8.toNat e2.1
      simp at e3
      rw [show x = y from by omega, ih (fun z hz => h z (by simp [hz])) (fun z hz => h' z (by simp [hz])) e2.2]

theorem conv_any {P : Program} (w : World) (v : Value) (l : List Int) (src e dst : TypeId) (hs : P.underlying src = some (.slice e)) (he : P.underlying e = some (.int .u8)) (hd : P.underlying dst = some .string)
    (hv : Ints .u8 w v l) : (convert src dst v).run P w = .ok (.string (strOfNums l)) w := by
  obtain ⟨ao, cap, rfl, hc, hm, hn, ho⟩ := hv.open
  by_cases h : l = []
  · subst h
    cases ao with
    | none => exact run_convert_bytes_nil w src e hs he _ _ dst hd
    | some a =>
      have hl : (loadCells a 0).run P w = .ok (([] : List Int).map (Value.int .u8)).toArray w := by
        have := run_loadCells_list (P := P) w a [] (by simp)
        simpa using this
      rw [run_convert_bytes_string w src dst e _ _ _ hs he hd]
      rw [show ([] : List Int).length = 0 from rfl, run_bytesToString w a 0 cap [] hl]
      rfl
  · obtain ⟨b, off, rfl, _, hcell⟩ := ho h
    exact run_convert_bytes_arg w src e hs he b off l.length cap l rfl hcell dst hd
end Go.Proofs.Ytlfnddmncbkjaab.Fb
