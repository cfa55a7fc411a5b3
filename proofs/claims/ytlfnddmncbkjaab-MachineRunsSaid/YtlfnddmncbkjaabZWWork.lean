/- ferrybridgelaw.work: a number comes out, and nothing is changed. -/
import Derived.Test.YtlfnddmncbkjaabZMA
namespace Go.Proofs.Ytlfnddmncbkjaab.W
set_option linter.unusedVariables false
set_option linter.unusedSimpArgs false
open Go.RowKit Fb
set_option maxRecDepth 100000 in
set_option maxHeartbeats 800000 in
theorem work_any (vs : Value) (l : List (Int × Int)) (w : World) (hs : Picks w vs l) :
    Calls Try.prog 45 #[vs] w fun e w' => (∃ n : Nat, e = .returned (.int .i64 n)) ∧ w' = w := by
  obtain ⟨aos, caps, rfl, hcs, hms, -, hos⟩ := hs.open (fun _ _ => rfl) (by omega)
  unfold maxLen at hms
  have HOS := Lib.hid hos
  clear hos hs
  go_enter Try.func45, Try.ntmps45
  go_wp2_with fail
  go_loopw [3, 4] (fun x i wr => ∃ n k : Nat, x = .int .i64 n ∧ i = .int .i64 k ∧ n ≤ 6001 ∧ k ≤ l.length ∧ wr = w) (fun _ i _ => l.length - (intOf i).toNat)
  case atStart => exact ⟨0, 0, rfl, rfl, by omega, by omega, rfl⟩
  case round =>
    obtain ⟨n, k, rfl, rfl, hn, hk, rfl⟩ := hrel
    by_cases hlt : k < l.length
    · obtain ⟨b, off, rfl, hbl, hel⟩ := HOS.out (by intro e; rw [e] at hlt; simp at hlt)
      have d1 := (hel k hlt).get (j := 1) (v := .int .i64 l[k].2) rfl
      clear hel
      generalize l[k].2 = y at *
      by_cases h3 : n ≤ 3000
      · by_cases hy : 0 < y
        · by_cases hy2 : y ≤ 3001
          · obtain ⟨t, rfl⟩ := Int.eq_ofNat_of_zero_le (Int.le_of_lt hy)
            have h4 : t ≤ 3001 := by omega
            have h5 : 0 < t := by omega
            have hmin : min (t : Int) 3001 = (t : Int) := by omega
            go_wp2_with fail
            exact ⟨⟨n + t, k + 1, by simp, by simp, by omega, by omega, trivial⟩, by simp [intOf]; omega⟩
          · have hmin : min y 3001 = 3001 := by omega
            go_wp2_with fail
            exact ⟨⟨n + 3001, k + 1, by simp, by simp, by omega, by omega, trivial⟩, by simp [intOf]; omega⟩
        · go_wp2_with fail
          exact ⟨⟨n, k + 1, by simp, by simp, by omega, by omega, trivial⟩, by simp [intOf]; omega⟩
      · go_wp2_with fail
        go_ret
        exact ⟨⟨n, rfl⟩, rfl⟩
    · obtain rfl : k = l.length := by omega
      go_wp2_with fail
      go_ret
      exact ⟨⟨n, rfl⟩, rfl⟩
end Go.Proofs.Ytlfnddmncbkjaab.W
