/- ferrybridgeref6.Same: of what is the same it says so. -/
import Derived.Test.YtlfnddmncbkjaaaZMA
namespace Go.Proofs.Ytlfnddmncbkjaaa.W
set_option linter.unusedVariables false
set_option linter.unusedSimpArgs false
open Go.RowKit Fb
theorem ins_neq (i : InsD) (w : World) : (binOp .neq 54 (.agg (icells i)) (.agg (icells i))).run Try.prog w = .ok (.bool false) w := by
  obtain ⟨q1, q2, q3, q4, q5⟩ := i
  rw [run_neq_struct]
  have h : (Op.equalIn 10000 54 (.agg (icells ⟨q1, q2, q3, q4, q5⟩)) (.agg (icells ⟨q1, q2, q3, q4, q5⟩))).run Try.prog w = .ok true w := by
    simp [icells, go_sem]
  rw [h]; rfl
set_option maxRecDepth 100000 in
set_option maxHeartbeats 1000000 in
theorem same6_any (v v' : Value) (l : List InsD) (pc : Int) (w : World) (hv : BlockAt w v l) (hv' : BlockAt w v' l) :
    Calls Try.prog 35 #[.agg #[.int .u32 pc, v], .agg #[.int .u32 pc, v']] w fun e w' => e = .returned (.bool true) ∧ Below w.heap.size w w' := by
  obtain ⟨ao, cap, rfl, hc, hm, _, ho⟩ := hv.open (fun _ _ => rfl) (by omega)
  obtain ⟨ao', cap', rfl, hc', hm', _, ho'⟩ := hv'.open (fun _ _ => rfl) (by omega)
  have HO := Lib.hid ho
  have HO' := Lib.hid ho'
  unfold maxLen at hm hm'
  clear hv hv' ho ho'
  go_enter Try.func35, Try.ntmps35
  go_upto_region 1 with (fail)
  have hb0 : Below w.heap.size w ((w.alloc (.cells #[.int .u32 pc, .slice ao l.length cap] 63)).alloc (.cells #[.int .u32 pc, .slice ao' l.length cap'] 63)) := (by repeat (first | with_reducible exact Below.refl _ _ | with_reducible refine below_drewN ?_ _ | ((with_reducible refine Below.setCell ?_ ?hq _); case hq => (first | (simp; done) | (simp; omega))) | ((with_reducible refine Below.alloc ?_ ?hq _); case hq => (first | (simp; done) | (simp; omega)))))
  have c0 : ((w.alloc (.cells #[.int .u32 pc, .slice ao l.length cap] 63)).alloc (.cells #[.int .u32 pc, .slice ao' l.length cap'] 63)).cell? ⟨w.heap.size, 0, none⟩ = some (.int .u32 pc) := by go_cell
  have c1 : ((w.alloc (.cells #[.int .u32 pc, .slice ao l.length cap] 63)).alloc (.cells #[.int .u32 pc, .slice ao' l.length cap'] 63)).cell? ⟨w.heap.size, 1, none⟩ = some (.slice ao l.length cap) := by go_cell
  have d0 : ((w.alloc (.cells #[.int .u32 pc, .slice ao l.length cap] 63)).alloc (.cells #[.int .u32 pc, .slice ao' l.length cap'] 63)).cell? ⟨w.heap.size + 1, 0, none⟩ = some (.int .u32 pc) := by go_cell
  have d1 : ((w.alloc (.cells #[.int .u32 pc, .slice ao l.length cap] 63)).alloc (.cells #[.int .u32 pc, .slice ao' l.length cap'] 63)).cell? ⟨w.heap.size + 1, 1, none⟩ = some (.slice ao' l.length cap') := by go_cell
  generalize (w.alloc (.cells #[.int .u32 pc, .slice ao l.length cap] 63)).alloc (.cells #[.int .u32 pc, .slice ao' l.length cap'] 63) = w2 at *
  go_wp2_with fail
  go_loopw [5] (fun i wr => ∃ k : Nat, i = .int .i64 k ∧ k ≤ l.length ∧ ∃ nd, wr = w2.drewN nd) (fun i _ => l.length - (intOf i).toNat)
  case atStart => exact ⟨0, rfl, by omega, 0, rfl⟩
  case round =>
    obtain ⟨k, rfl, hk, nd, rfl⟩ := hrel
    by_cases hlt : k < l.length
    · obtain ⟨b, off, rfl, hbl, hel⟩ := HO.out (by intro e; rw [e] at hlt; simp at hlt)
      obtain ⟨b', off', rfl, hbl', hel'⟩ := HO'.out (by intro e; rw [e] at hlt; simp at hlt)
      have hat : At w2 b (off + k * 5) (ilist l[k]) := (hel k hlt).below hb0
      have hat' : At w2 b' (off' + k * 5) (ilist l[k]) := (hel' k hlt).below hb0
      generalize l[k] = h at *
      have hsz : (Try.prog.info? 54).map (·.size) = some (icells h).size := by kernel_rfl
      have i1 : (0 : Int) ≤ (k : Int) := by omega
      have i2 : (k : Int) < (l.length : Int) := by omega
      clear hel hel' hk
      go_wp2_with fail
      refine wp_region_quiet_lit (by kernel_rfl) (by kernel_rfl) ?_
      repeat (first
        | (refine wpQuiet_load_at rfl 54 _ rfl b (off + k * 5) rfl (icells h) _ (by rintro _ ⟨_, rfl⟩; exact hat) Try.underlying54 rfl hsz ?_)
        | (refine wpQuiet_load_at rfl 54 _ rfl b' (off' + k * 5) rfl (icells h) _ (by rintro _ ⟨_, rfl⟩; exact hat') Try.underlying54 rfl hsz ?_)
        | (refine wpQuiet_neq rfl 54 _ _ _ rfl (icells h) (icells h) rfl rfl (by kernel_rfl) _ (ins_neq h) ?_)
        | quiet_step (fail))
      refine wpQuiet_nil ?_
      intro _ hw'
      obtain ⟨nq, hw''⟩ := hw'
      subst hw''
      go_wp2
      go_roundw
      case rel => exact ⟨k + 1, by go_num, by omega, _, rfl⟩
      case measure => simp [intOf]; omega
    · go_wp2
      go_ret
      exact ⟨rfl, below_drewN hb0 _⟩
end Go.Proofs.Ytlfnddmncbkjaaa.W
