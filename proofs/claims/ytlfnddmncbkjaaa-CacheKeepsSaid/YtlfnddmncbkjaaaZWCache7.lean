/- cache.Put, walked. -/
import Derived.Test.YtlfnddmncbkjaaaZWCache6
import Derived.Test.YtlfnddmncbkjaaaZWDelete
import Derived.Test.YtlfnddmncbkjaaaZMB
namespace Go.Proofs.Ytlfnddmncbkjaaa.W
set_option linter.unusedVariables false
set_option linter.unusedSimpArgs false
open Go.RowKit Fb
set_option maxRecDepth 100000 in
set_option maxHeartbeats 1600000 in
theorem cput_bad (room : Int) (v : Value) (pu st : Int) (l : List BlkD) (y : BlkD) (w : World) (hv : Blks w v l) (hy : BlkOk w y) (hbad : y.ins.length < 1 ∨ 16 < y.ins.length) (hl : l.length * 32 ≤ 140737488351232) :
    Calls Try.prog 38 #[.agg #[.int .i64 room, v, .int .i64 pu, .int .i64 st], .agg #[.int .u32 y.pc, y.vi]] w fun e w' => e = .returned (.tuple #[.agg #[.int .i64 0, .slice none 0 0, .int .i64 0, .int .i64 0], .int .i64 2]) ∧ Below w.heap.size w w' := by
  obtain ⟨ao, cap, rfl, -⟩ := hv.1.open (fun _ _ => rfl) (by omega)
  obtain ⟨ay, cy, hyv, -⟩ := hy.at_.open (fun _ _ => rfl) (by omega)
  rw [hyv]
  obtain ⟨n, hn⟩ : ∃ n, n = y.ins.length := ⟨_, rfl⟩
  rw [← hn] at hbad ⊢
  clear hn hyv hy hv
  obtain ⟨w1, hw1⟩ : ∃ w1, w1 = ((w.alloc (.cells #[.int .i64 room, .slice ao l.length cap, .int .i64 pu, .int .i64 st] 60)).alloc (.cells #[.int .u32 y.pc, .slice ay n cy] 63)).alloc (.cells #[.int .i64 0, .slice none 0 0, .int .i64 0, .int .i64 0] 60) := ⟨_, rfl⟩
  have hb1 : Below w.heap.size w w1 := by rw [hw1]; exact (by repeat (first | with_reducible exact Below.refl _ _ | with_reducible refine below_drewN ?_ _ | ((with_reducible refine Below.setCell ?_ ?hq _); case hq => (first | (simp; done) | (simp; omega))) | ((with_reducible refine Below.alloc ?_ ?hq _); case hq => (first | (simp; done) | (simp; omega)))))
  have c0 : (w1).cell? ⟨w.heap.size, 0, none⟩ = some (.int .i64 room) := by rw [hw1]; go_cell
  have c1 : (w1).cell? ⟨w.heap.size, 1, none⟩ = some (.slice ao l.length cap) := by rw [hw1]; go_cell
  have c2 : (w1).cell? ⟨w.heap.size, 2, none⟩ = some (.int .i64 pu) := by rw [hw1]; go_cell
  have c3 : (w1).cell? ⟨w.heap.size, 3, none⟩ = some (.int .i64 st) := by rw [hw1]; go_cell
  have r0 : (w1).cell? ⟨w.heap.size + 1, 0, none⟩ = some (.int .u32 y.pc) := by rw [hw1]; go_cell
  have r1 : (w1).cell? ⟨w.heap.size + 1, 1, none⟩ = some (.slice ay n cy) := by rw [hw1]; go_cell
  have hZ : w1.heap[w.heap.size + 1 + 1]? = some (.cells #[.int .i64 0, .slice none 0 0, .int .i64 0, .int .i64 0] 60 (0, 0)) := by
    have := heap_alloc_new ((w.alloc (.cells #[.int .i64 room, .slice ao l.length cap, .int .i64 pu, .int .i64 st] 60)).alloc (.cells #[.int .u32 y.pc, .slice ay n cy] 63)) (.cells #[.int .i64 0, .slice none 0 0, .int .i64 0, .int .i64 0] 60)
    rw [World.size_alloc, World.size_alloc] at this
    rw [hw1]; exact this
  have hth : w1.there (w.heap.size + 1 + 1) 0 4 := there_blk hZ rfl
  have hsz : (Try.prog.info? 60).map (·.size) = some (#[.int .i64 0, .slice none 0 0, .int .i64 0, .int .i64 0] : Array Value).size := by show _ = some 4; kernel_rfl
  have hall : (#[.int .i64 0, .slice none 0 0, .int .i64 0, .int .i64 0] : Array Value).all (·.oneCell') = true := by simp [Value.oneCell']
  have hld := load_setCells (P := Try.prog) hth Try.underlying60 rfl hsz
  have HW1 := Lib.hid hw1
  have HB1 := Lib.hid hb1
  clear hw1 hb1 hZ
  go_enter Try.func38, Try.ntmps38
  rcases hbad with h | h
  · have h1 : (n : Int) < 1 := by omega
    go_upto_region 1 with (fail)
    rw [← HW1.out]
    go_wp2_with (first | (refine wpList_store_mid rfl 60 _ _ rfl (w.heap.size + 1 + 1) 0 #[.int .i64 0, .slice none 0 0, .int .i64 0, .int .i64 0] rfl rfl hth hsz hall ?_))
    exact bodyPost_ret (results_c1t (by rfl) _ (by rfl) hld) rfl ⟨rfl, below_setCells (by omega) _ _ _ HB1.out⟩
  · have h1 : ¬ (n : Int) < 1 := by omega
    have h2 : (16 : Int) < (n : Int) := by omega
    go_upto_region 1 with (fail)
    rw [← HW1.out]
    go_wp2_with (first | (refine wpList_store_mid rfl 60 _ _ rfl (w.heap.size + 1 + 1) 0 #[.int .i64 0, .slice none 0 0, .int .i64 0, .int .i64 0] rfl rfl hth hsz hall ?_))
    exact bodyPost_ret (results_c1t (by rfl) _ (by rfl) hld) rfl ⟨rfl, below_setCells (by omega) _ _ _ HB1.out⟩
end Go.Proofs.Ytlfnddmncbkjaaa.W
