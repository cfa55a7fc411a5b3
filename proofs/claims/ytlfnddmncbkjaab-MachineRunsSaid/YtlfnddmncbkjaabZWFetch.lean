/- hart.Fetch, block.Ends, ref6.Last, walked. -/
import Derived.Test.YtlfnddmncbkjaabZMA
import Derived.Test.YtlfnddmncbkjaabZWMem
import Derived.Test.YtlfnddmncbkjaabZWDecode
namespace Go.Proofs.Ytlfnddmncbkjaab.W
set_option linter.unusedVariables false
set_option linter.unusedSimpArgs false
open Go.RowKit Fb
set_option maxRecDepth 100000 in
set_option maxHeartbeats 1000000 in
theorem fetch_any (v : Value) (l : List Int) (pc : Int) (w : World) (hv : Ints .u8 w v l) (hpc : U32 pc) (hb : ∀ i, 0 ≤ l.getD i 0 ∧ l.getD i 0 < 256) :
    Calls Try.prog 74 #[v, .int .u32 pc] w fun e w' => e = .returned (.tuple #[.agg (icells (fetchS l pc).1), .int .i64 (fetchS l pc).2]) ∧ Below w.heap.size w w' := by
  have HL := Lib.hid (fun W h => load_any v l 13 pc W h hpc hb)
  have HV := Lib.hid hv
  have HU : Hid (U32 (mLoad l 13 pc)) := Lib.hid (mLoad_u13 l pc hpc hb)
  have hF : fetchS l pc = if mLoadOk l 13 pc = true then (match dec (mLoad l 13 pc) with | some i => (i, (0 : Int)) | none => (i0, 2)) else (i0, 1) := rfl
  obtain ⟨fr, hfr⟩ : ∃ r, r = fetchS l pc := ⟨_, rfl⟩
  rw [← hfr] at hF ⊢
  have HF := Lib.hid hF
  clear hv hF hfr hpc
  go_enter Try.func74, Try.ntmps74
  go_wp2_with fail
  refine (HL.out _ (HV.out.below (Below.alloc (Below.refl _ _) (Nat.le_refl _) _))).mono ?_
  rintro e w1 ⟨rfl, rfl⟩
  clear HL HV
  generalize mLoad l 13 pc = x at *
  cases ho : mLoadOk l 13 pc with
  | false =>
    rw [ho] at HF
    have HF2 : Hid (fr = (i0, 1)) := HF
    clear ho HF
    go_wp2_with fail
    exact bodyPost_ret (v := .tuple #[.agg #[.int .i64 0, .int .i64 0, .int .i64 0, .int .i64 0, .int .i32 0], .int .i64 1]) (by simp [results, Try.results74, go_sem]) rfl ⟨by rw [HF2.out]; rfl, (by repeat (first | with_reducible exact Below.refl _ _ | with_reducible refine below_drewN ?_ _ | ((with_reducible refine Below.setCell ?_ ?hq _); case hq => (first | (simp; done) | (simp; omega))) | ((with_reducible refine Below.alloc ?_ ?hq _); case hq => (first | (simp; done) | (simp; omega)))))⟩
  | true =>
    rw [ho] at HF
    have HF2 : Hid (fr = (match dec x with | some i => (i, (0 : Int)) | none => (i0, 2))) := HF
    clear ho HF
    go_wp2_with fail
    refine (decode_any x _ HU.out).mono ?_
    rintro e w2 ⟨rfl, hb2⟩
    have hblk := (hb2.block w.heap.size (by simp)).trans (heap_alloc_new w (.cells #[.int .i64 0, .int .i64 0, .int .i64 0, .int .i64 0, .int .i32 0] 38))
    have hlt2 : w.heap.size < w2.heap.size := by have := hb2.size; simp at this; omega
    have hb3 : Below w.heap.size w w2 := Below.trans (Below.alloc (Below.refl _ _) (Nat.le_refl _) _) (hb2.mono (by simp))
    have HFI : Hid (fr = ((dec x).getD i0, if (dec x).isSome = true then 0 else 2)) := Lib.hid (by rw [HF2.out]; cases dec x <;> rfl)
    have HFN : Hid ((dec x).isSome = false → fr = (i0, 2)) := Lib.hid (by intro h; rw [HF2.out]; cases hd : dec x with | none => rfl | some y => rw [hd] at h; cases h)
    clear HF2 hb2
    generalize (dec x).isSome = ok at *
    generalize (dec x).getD i0 = j at *
    obtain ⟨q1, q2, q3, q4, q5⟩ := j
    simp only [icells]
    obtain ⟨w3, hw3⟩ : ∃ w3, w3 = w2.alloc (.cells #[.int .i64 q1, .int .i64 q2, .int .i64 q3, .int .i64 q4, .int .i32 q5] 38) := ⟨_, rfl⟩
    have hblk3 : w3.heap[w.heap.size]? = some (.cells #[.int .i64 0, .int .i64 0, .int .i64 0, .int .i64 0, .int .i32 0] 38 (0, 0)) := by rw [hw3]; exact (heap_alloc_old w2 _ hlt2).trans hblk
    have k0 : w3.cell? ⟨w.heap.size, 0, none⟩ = some (.int .i64 0) := cell_blk hblk3 rfl
    have k1 : w3.cell? ⟨w.heap.size, 1, none⟩ = some (.int .i64 0) := cell_blk hblk3 rfl
    have k2 : w3.cell? ⟨w.heap.size, 2, none⟩ = some (.int .i64 0) := cell_blk hblk3 rfl
    have k3 : w3.cell? ⟨w.heap.size, 3, none⟩ = some (.int .i64 0) := cell_blk hblk3 rfl
    have k4 : w3.cell? ⟨w.heap.size, 4, none⟩ = some (.int .i32 0) := cell_blk hblk3 rfl
    have kf := free_of_one' hblk3
    have r0 : w3.cell? ⟨w2.heap.size, 0, none⟩ = some (.int .i64 q1) := by rw [hw3]; go_cell
    have r1 : w3.cell? ⟨w2.heap.size, 1, none⟩ = some (.int .i64 q2) := by rw [hw3]; go_cell
    have r2 : w3.cell? ⟨w2.heap.size, 2, none⟩ = some (.int .i64 q3) := by rw [hw3]; go_cell
    have r3 : w3.cell? ⟨w2.heap.size, 3, none⟩ = some (.int .i64 q4) := by rw [hw3]; go_cell
    have r4 : w3.cell? ⟨w2.heap.size, 4, none⟩ = some (.int .i32 q5) := by rw [hw3]; go_cell
    have hb4 : Below w.heap.size w w3 := by rw [hw3]; exact hb3.trans (Below.alloc (Below.refl _ _) (Nat.le_of_lt hlt2) _)
    have HW3 := Lib.hid hw3
    clear hw3 hblk hblk3 hlt2 hb3
    go_upto_region 5 with (fail)
    rw [← HW3.out]
    cases ok with
    | true =>
      go_wp2_with fail
      exact bodyPost_ret (v := .tuple #[.agg #[.int .i64 q1, .int .i64 q2, .int .i64 q3, .int .i64 q4, .int .i32 q5], .int .i64 0]) (by simp [results, Try.results74, go_sem, k0, k1, k2, k3, k4]) rfl ⟨by rw [HFI.out]; rfl, hb4.trans (by repeat (first | with_reducible exact Below.refl _ _ | with_reducible refine below_drewN ?_ _ | ((with_reducible refine Below.setCell ?_ ?hq _); case hq => (first | (simp; done) | (simp; omega))) | ((with_reducible refine Below.alloc ?_ ?hq _); case hq => (first | (simp; done) | (simp; omega)))))⟩
    | false =>
      have HFJ : Hid (fr = (i0, 2)) := Lib.hid (HFN.out rfl)
      go_wp2_with fail
      exact bodyPost_ret (v := .tuple #[.agg #[.int .i64 0, .int .i64 0, .int .i64 0, .int .i64 0, .int .i32 0], .int .i64 2]) (by simp [results, Try.results74, go_sem, k0, k1, k2, k3, k4]) rfl ⟨by rw [HFJ.out]; rfl, hb4.trans (by repeat (first | with_reducible exact Below.refl _ _ | with_reducible refine below_drewN ?_ _ | ((with_reducible refine Below.setCell ?_ ?hq _); case hq => (first | (simp; done) | (simp; omega))) | ((with_reducible refine Below.alloc ?_ ?hq _); case hq => (first | (simp; done) | (simp; omega)))))⟩
set_option maxHeartbeats 400000 in
theorem ends_any (op : Int) (w : World) : Calls Try.prog 75 #[.int .i64 op] w fun e w' => e = .returned (.bool (lastB op)) ∧ w = w' := by
  go_enter Try.func75, Try.ntmps75
  go_wp2
  all_goals go_ret
  all_goals refine ⟨ret_bool ?_, rfl⟩
  all_goals (try simp only [beq_iff_eq, beq_eq_false_iff_ne, ne_eq, decide_eq_true_eq, decide_eq_false_iff_not] at *)
  all_goals (rw [Bool.eq_iff_iff]; simp [lastB]; omega)
end Go.Proofs.Ytlfnddmncbkjaab.W
