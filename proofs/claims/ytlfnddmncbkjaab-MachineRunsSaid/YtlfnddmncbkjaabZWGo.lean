/- hart.Core.Go, walked. -/
import Derived.Test.YtlfnddmncbkjaabZWDo
import Derived.Test.YtlfnddmncbkjaabZWFetch
namespace Go.Proofs.Ytlfnddmncbkjaab.Fb
set_option linter.unusedVariables false
set_option linter.unusedSimpArgs false
theorem fetchS_ins (l : List Int) (pc : Int) (h : (fetchS l pc).2 = 0) : isS (fetchS l pc).1 = true ∧ I32 (fetchS l pc).1.imm := by
  unfold fetchS at h ⊢
  split
  · rename_i hok
    rw [if_pos hok] at h
    cases hd : dec (mLoad l 13 pc) with
    | none => rw [hd] at h; simp at h
    | some i => exact dec_is _ _ hd
  · rename_i hok
    rw [if_neg hok] at h
    simp at h
theorem isS_b {i : InsD} (h : isS i = true) : (1 ≤ i.op ∧ i.op ≤ 59) ∧ (0 ≤ i.rd ∧ i.rd ≤ 31) ∧ (0 ≤ i.rs1 ∧ i.rs1 ≤ 31) ∧ (0 ≤ i.rs2 ∧ i.rs2 ≤ 31) := by
  have h2 := isS_known h
  unfold knownOp regsOk at h2
  simp only [Bool.and_eq_true, decide_eq_true_eq] at h2
  omega
end Go.Proofs.Ytlfnddmncbkjaab.Fb
namespace Go.Proofs.Ytlfnddmncbkjaab.W
open Go.RowKit Fb
section
variable {cp hb ho : Nat} {vm : Value} {d : CoreD} {w : World}
set_option maxRecDepth 100000 in
set_option maxHeartbeats 800000 in
theorem go_any (h : CoreAt cp hb ho vm 34 w d) (wf : d.Wf) (hlen : d.out.length < 1099511627776) :
    Calls Try.prog 86 #[.pointer (some ⟨cp, 0, none⟩)] w fun e w' => e = .returned (.tuple #[]) ∧ CoreAt cp hb ho vm 34 w' (goS d) ∧ Cgo cp hb ho vm 34 w w' := by
  have hne := h.hbl
  have hfr := h.fr
  have htw := h.tw
  have f3 := h.frz 3
  have f4 := h.frz 4
  have H1 : Hid (CoreAt cp hb ho vm 34 ((w.setCell ⟨cp, 3, none⟩ (.int .u32 0)).setCell ⟨cp, 4, none⟩ (.int .u32 0)) d.none) := Lib.hid ((h.setFr 0).setTo 0)
  have G1 : Hid (Cgo cp hb ho vm 34 w ((w.setCell ⟨cp, 3, none⟩ (.int .u32 0)).setCell ⟨cp, 4, none⟩ (.int .u32 0))) := Lib.hid ((Cgo.setCore w hne 3 _).trans (Cgo.setCore _ hne 4 _))
  have wf0 := wf.none
  have hgo : goS d = if (fetchS d.m d.h.pc).2 = 0 then doS (fetchS d.m d.h.pc).1 d.none else d.none.trap (fetchS d.m d.h.pc).2 := rfl
  rw [hgo]
  have HI := Lib.hid (fetchS_ins d.m d.h.pc)
  have HFE := Lib.hid (fun W hW => fetch_any vm d.m d.h.pc W hW wf.h.pc wf.m.getD)
  clear hgo h
  generalize (fetchS d.m d.h.pc).2 = code at *
  generalize (fetchS d.m d.h.pc).1 = ii at *
  obtain ⟨dd, hdd⟩ : ∃ x, x = (if code = 0 then doS ii d.none else d.none.trap code) := ⟨_, rfl⟩
  rw [← hdd]
  have HD := Lib.hid hdd
  clear hdd
  go_enter Try.func86, Try.ntmps86
  go_upto_region 1 with (fail)
  clear hfr htw f3 f4
  generalize (w.setCell ⟨cp, 3, none⟩ (.int .u32 0)).setCell ⟨cp, 4, none⟩ (.int .u32 0) = w1 at *
  have hp := H1.out.ptr
  have hm := H1.out.mem
  have hc32 : w1.cell? ⟨hb, ho + 32, none⟩ = some (.int .u32 d.h.pc) := H1.out.hart.get (hlist_pc wf.h)
  have l1 := H1.out.lt
  have l2 := H1.out.hlt
  obtain ⟨q1, q2, q3, q4, q5⟩ := ii
  simp only [icells] at HFE
  have KP : Hid (∀ w', Below w1.heap.size w1 w' → Below w1.heap.size w1 w' ∧ w'.cell? ⟨cp, 0, none⟩ = some (.pointer (some ⟨hb, ho, none⟩)) ∧ w'.cell? ⟨cp, 1, none⟩ = some vm ∧ w'.cell? ⟨hb, ho + 32, none⟩ = some (.int .u32 d.h.pc)) :=
    Lib.hid (fun w' h => ⟨h, (h.cell (p := ⟨cp, 0, none⟩) l1).trans hp, (h.cell (p := ⟨cp, 1, none⟩) l1).trans hm, (h.cell (p := ⟨hb, ho + 32, none⟩) l2).trans hc32⟩)
  go_region_held3 (fun w' => Below w1.heap.size w1 w' ∧ w'.cell? ⟨cp, 0, none⟩ = some (.pointer (some ⟨hb, ho, none⟩)) ∧ w'.cell? ⟨cp, 1, none⟩ = some vm ∧ w'.cell? ⟨hb, ho + 32, none⟩ = some (.int .u32 d.h.pc))
    ((refine KP.out _ ?_; (repeat (first | with_reducible exact Below.refl _ _ | with_reducible exact hK | with_reducible refine below_drewN ?_ _ | with_reducible refine Below.drew ?_ | ((with_reducible refine Below.setCell ?_ ?hq _); (case hq => (first | (simp; done) | (simp; omega)))) | ((with_reducible refine Below.alloc ?_ ?hq _); (case hq => (first | (simp; done) | (simp; omega) | exact hK.size)))))))
    ((go_at_call 74; refine (HFE.out _ (H1.out.bytes.below ?hB)).mono ?_; (case hB => (repeat (first | with_reducible exact Below.refl _ _ | with_reducible exact hK | with_reducible refine below_drewN ?_ _ | with_reducible refine Below.drew ?_ | ((with_reducible refine Below.setCell ?_ ?hq _); (case hq => (first | (simp; done) | (simp; omega)))) | ((with_reducible refine Below.alloc ?_ ?hq _); (case hq => (first | (simp; done) | (simp; omega) | exact hK.size)))))); rintro e w2 ⟨rfl, hb2⟩; have hK : Below w1.heap.size w1 w2 := (Below.trans (by (repeat (first | with_reducible exact Below.refl _ _ | with_reducible exact hK | with_reducible refine below_drewN ?_ _ | with_reducible refine Below.drew ?_ | ((with_reducible refine Below.setCell ?_ ?hq _); (case hq => (first | (simp; done) | (simp; omega)))) | ((with_reducible refine Below.alloc ?_ ?hq _); (case hq => (first | (simp; done) | (simp; omega) | exact hK.size)))))) (hb2.mono (by first | (simp; done) | (simp; omega)))); (try have hx : w2.heap[w1.heap.size]? = some (.cells #[.int .i64 0, .int .i64 0, .int .i64 0, .int .i64 0, .int .i32 0] 38 (0, 0)) := (hb2.block w1.heap.size (by simp)).trans (heap_alloc_new w1 _)); (try have x0 : w2.cell? ⟨w1.heap.size, 0, none⟩ = some (.int .i64 0) := cell_blk hx rfl); (try have x1 : w2.cell? ⟨w1.heap.size, 1, none⟩ = some (.int .i64 0) := cell_blk hx rfl); (try have x2 : w2.cell? ⟨w1.heap.size, 2, none⟩ = some (.int .i64 0) := cell_blk hx rfl); (try have x3 : w2.cell? ⟨w1.heap.size, 3, none⟩ = some (.int .i64 0) := cell_blk hx rfl); (try have x4 : w2.cell? ⟨w1.heap.size, 4, none⟩ = some (.int .i32 0) := cell_blk hx rfl); (try have xf := free_of_one' hx)))
  all_goals
    by_cases hcode : code = 0
    · obtain ⟨hs, hi32⟩ := HI.out hcode
      obtain ⟨s1, s2, s3, s4⟩ := isS_b hs
      subst hcode
      clear HI hs
      go_wp2_with fail
      refine (do_any (H1.out.below ?hKK) wf0 hlen ⟨q1, q2, q3, q4, q5⟩ s1 s2 s3 s4 hi32).mono ?_
      case hKK => (repeat (first | with_reducible exact Below.refl _ _ | with_reducible exact hK | with_reducible refine below_drewN ?_ _ | with_reducible refine Below.drew ?_ | ((with_reducible refine Below.setCell ?_ ?hq _); (case hq => (first | (simp; done) | (simp; omega)))) | ((with_reducible refine Below.alloc ?_ ?hq _); (case hq => (first | (simp; done) | (simp; omega) | exact hK.size)))))
      rintro e w3 ⟨rfl, hc, hg⟩
      go_wp2_with fail
      go_end0
      refine ⟨rfl, by rw [HD.out]; first | (rw [if_pos rfl]; exact hc) | (rw [if_pos trivial]; exact hc), (G1.out.trans (Cgo.of_below ?_ l2)).trans hg⟩
      (repeat (first | with_reducible exact Below.refl _ _ | with_reducible exact hK | with_reducible refine below_drewN ?_ _ | with_reducible refine Below.drew ?_ | ((with_reducible refine Below.setCell ?_ ?hq _); (case hq => (first | (simp; done) | (simp; omega)))) | ((with_reducible refine Below.alloc ?_ ?hq _); (case hq => (first | (simp; done) | (simp; omega) | exact hK.size)))))
    · go_wp2_with fail
      refine (trap_any (H1.out.below ?hKK) wf0.h code).mono ?_
      case hKK => (repeat (first | with_reducible exact Below.refl _ _ | with_reducible exact hK | with_reducible refine below_drewN ?_ _ | with_reducible refine Below.drew ?_ | ((with_reducible refine Below.setCell ?_ ?hq _); (case hq => (first | (simp; done) | (simp; omega)))) | ((with_reducible refine Below.alloc ?_ ?hq _); (case hq => (first | (simp; done) | (simp; omega) | exact hK.size)))))
      rintro e w3 ⟨rfl, hc, hg⟩
      go_wp2_with fail
      refine bodyPost_ret (results_none (by rfl) _ _ _) rfl ⟨rfl, by rw [HD.out, if_neg hcode]; exact hc, (G1.out.trans (Cgo.of_below ?_ l2)).trans hg⟩
      (repeat (first | with_reducible exact Below.refl _ _ | with_reducible exact hK | with_reducible refine below_drewN ?_ _ | with_reducible refine Below.drew ?_ | ((with_reducible refine Below.setCell ?_ ?hq _); (case hq => (first | (simp; done) | (simp; omega)))) | ((with_reducible refine Below.alloc ?_ ?hq _); (case hq => (first | (simp; done) | (simp; omega) | exact hK.size)))))
end
end Go.Proofs.Ytlfnddmncbkjaab.W
