/- ferrybridgeref13.at, walked. -/
import Derived.Test.YtlfnddmncbkjaaaZMB
import Derived.Test.YtlfnddmncbkjaaaZMA
namespace Go.Proofs.Ytlfnddmncbkjaaa.W
set_option linter.unusedVariables false
set_option linter.unusedSimpArgs false
open Go.RowKit Fb
set_option maxRecDepth 100000 in
set_option maxHeartbeats 800000 in
/-- the number at a place -/
theorem at13_yes (v : Value) (b : List Int) (k : Nat) (w : World) (hv : Ints .u8 w v b) (hb : Bytes b) (hk : k + 4 ≤ b.length) (hl : b.length ≤ 140737488351232) :
    Calls Try.prog 65 #[v, .int .i64 k] w fun e w' => e = .returned (.int .i64 (leW (b.drop k))) ∧ w' = w := by
  obtain ⟨ao, cap, rfl, hc1, hc2, -, ho⟩ := hv.open
  obtain ⟨bb, off, rfl, -, hx⟩ := ho (by intro e; rw [e] at hk; simp at hk)
  have x0 := hx k (by omega)
  have x1 := hx (k + 1) (by omega)
  have x2 := hx (k + 2) (by omega)
  have x3 := hx (k + 3) (by omega)
  have b0 := hb.getD k
  have b1 := hb.getD (k + 1)
  have b2 := hb.getD (k + 2)
  have b3 := hb.getD (k + 3)
  have e0 : leW (b.drop k) = b.getD k 0 + 256 * b.getD (k + 1) 0 + 65536 * b.getD (k + 2) 0 + 16777216 * b.getD (k + 3) 0 := by
    unfold leW
    simp [List.getD, List.getElem?_drop]
  rw [e0]
  generalize b.getD k 0 = y0 at *
  generalize b.getD (k + 1) 0 = y1 at *
  generalize b.getD (k + 2) 0 = y2 at *
  generalize b.getD (k + 3) 0 = y3 at *
  obtain ⟨n, hn⟩ : ∃ n : Int, n = y0 + 256 * y1 + 65536 * y2 + 16777216 * y3 := ⟨_, rfl⟩
  rw [← hn]
  have HN := Lib.hid hn
  have h4 : ¬ ((b.length : Int) < (k : Int) + 4) := by omega
  clear hx ho hv hn e0
  unfold maxLen at hc2
  go_enter Try.func65, Try.ntmps65
  go_wp2_with fail
  go_loopw [5, 6] (fun x i wr => wr = w ∧ ∃ a j : Int, x = .int .i64 a ∧ i = .int .i64 j ∧ Hid ((a = 0 ∧ j = 3) ∨ (a = y3 ∧ j = 2) ∨ (a = 256 * y3 + y2 ∧ j = 1) ∨ (a = 256 * (256 * y3 + y2) + y1 ∧ j = 0) ∨ (a = n ∧ j = -1))) (fun _ i _ => (intOf i + 1).toNat)
  case atStart => exact ⟨rfl, 0, 3, rfl, rfl, Lib.hid (.inl ⟨rfl, rfl⟩)⟩
  case round =>
    obtain ⟨rfl, a, j, rfl, rfl, HR⟩ := hrel
    rcases HR.out with ⟨rfl, rfl⟩ | ⟨rfl, rfl⟩ | ⟨rfl, rfl⟩ | ⟨rfl, rfl⟩ | ⟨rfl, rfl⟩
    all_goals (clear HR; go_wp2_with fail)
    · exact ⟨⟨trivial, _, _, rfl, rfl, Lib.hid (.inr (.inl ⟨rfl, rfl⟩))⟩, by decide⟩
    · exact ⟨⟨trivial, _, _, rfl, rfl, Lib.hid (.inr (.inr (.inl ⟨rfl, rfl⟩)))⟩, by decide⟩
    · exact ⟨⟨trivial, _, _, rfl, rfl, Lib.hid (.inr (.inr (.inr (.inl ⟨rfl, rfl⟩))))⟩, by decide⟩
    · exact ⟨⟨trivial, _, _, rfl, rfl, Lib.hid (.inr (.inr (.inr (.inr ⟨by have := HN.out; omega, rfl⟩))))⟩, by decide⟩
    · go_ret
      exact ⟨rfl, rfl⟩
set_option maxRecDepth 100000 in
/-- where there is none -/
theorem at13_no (v : Value) (b : List Int) (k : Nat) (w : World) (hv : Ints .u8 w v b) (hk : b.length < k + 4) (hl : k ≤ 140737488351232) :
    Calls Try.prog 65 #[v, .int .i64 k] w fun e w' => e = .returned (.int .i64 (-1)) ∧ w' = w := by
  obtain ⟨ao, cap, rfl, -, -, -, -⟩ := hv.open
  have h4 : (b.length : Int) < (k : Int) + 4 := by omega
  clear hv hk
  go_enter Try.func65, Try.ntmps65
  go_wp2_with fail
  go_ret
  exact ⟨rfl, rfl⟩
end Go.Proofs.Ytlfnddmncbkjaaa.W
