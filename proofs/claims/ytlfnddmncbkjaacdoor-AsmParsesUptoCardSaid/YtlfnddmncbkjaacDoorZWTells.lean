/- decode.tells, signed, walked. -/
import Derived.Test.YtlfnddmncbkjaacDoorZMA
import Derived.Test.YtlfnddmncbkjaacDoorZWCut
namespace Go.Proofs.YtlfnddmncbkjaacDoor.W
set_option linter.unusedVariables false
set_option linter.unusedSimpArgs false
open Go.RowKit Fb
set_option maxRecDepth 100000 in
set_option maxHeartbeats 1000000 in
theorem tells_any (f l m u x : Int) (w : World) (hx : U32 x) (hl : 0 ≤ l ∧ l < 128) (hm : 0 ≤ m ∧ m < 8) (hu : 0 ≤ u ∧ u < 128) :
    Calls Tryd.prog 35 #[.agg #[.int .i64 f, .int .u32 l, .int .u32 m, .int .u32 u], .int .u32 x] w fun e w' => e = .returned (.bool (tellsB ⟨f, l, m, u⟩ x)) ∧ Below w.heap.size w w' := by
  have HX := Lib.hid hx
  have HE : Hid (bits .or .u32 l (u * 1048576) = l + u * 1048576) := Lib.hid (or_hi l u 20 (by omega) hl.1 (by omega) hu.1 (by omega))
  obtain ⟨hx0, hx1⟩ := hx
  obtain ⟨hl0, hl1⟩ := hl
  obtain ⟨hm0, hm1⟩ := hm
  obtain ⟨hu0, hu1⟩ := hu
  have hsh : u * 1048576 % 4294967296 = u * 1048576 := by omega
  have HSH := Lib.hid hsh
  clear hsh
  by_cases h1 : x % 128 = l
  · have g1 : (x % 128 == l) = true := by simpa using h1
    have g2 : (x % 128 != l) = false := by simpa using h1
    have H1 := Lib.hid g2
    clear h1
    by_cases h2 : x / 4096 % 8 = m
    all_goals
      first
      | have g3 : (x / 4096 % 8 == m) = true := by simpa using h2
      | have g3 : (x / 4096 % 8 == m) = false := by simpa using h2
      have H3 := Lib.hid g3
      clear h2
      go_enter Tryd.func35, Tryd.ntmps35
      go_wp2_with fail
      go_quiet (first | (go_at_call 23; exact Calls.quiet_of (cut_0_6 _ _ HX.out)))
      go_wp2_with fail
      all_goals first
        | go_ret
        | (go_quiet (first | (go_at_call 23; first | (with_reducible exact quiet_add (cut_12_14 _ _ HX.out)) | (with_reducible exact quiet_add (cut_25_31 _ _ HX.out)) | (with_reducible exact quiet_add (cut_27_31 _ _ HX.out))))
           go_wp2_with fail
           go_ret)
      all_goals refine ⟨ret_bool ?_, by first | exact below_drewN (below_drewN (by go_grown) _) _ | exact below_drewN (by go_grown) _⟩
      all_goals have he := HE.out
      all_goals have h1 := HSH.out
      all_goals clear HE HSH HX H1 H3
      all_goals first | (simp [tellsB, *]; done) | (simp [tellsB, *]; omega)
  · have g1 : (x % 128 == l) = false := by simpa using h1
    have g2 : (x % 128 != l) = true := by simpa using h1
    have H1 := Lib.hid g2
    clear h1
    go_enter Tryd.func35, Tryd.ntmps35
    go_wp2_with fail
    go_quiet (first | (go_at_call 23; exact Calls.quiet_of (cut_0_6 _ _ HX.out)))
    go_wp2_with fail
    go_ret
    exact ⟨ret_bool (by unfold tellsB; rw [if_pos H1.out]), below_drewN (by go_grown) _⟩
end Go.Proofs.YtlfnddmncbkjaacDoor.W
