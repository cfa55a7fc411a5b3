import Derived.Test.YtlfnddmncbkjaaaZMB
import Derived.Test.YtlfnddmncbkjaaaZWClone
set_option linter.unusedVariables false
set_option linter.unusedSimpArgs false
set_option maxRecDepth 100000
set_option maxHeartbeats 4000000
namespace Go.Proofs.Ytlfnddmncbkjaaa.W
open Go.RowKit Fb
theorem info_harts : (Try.prog.info? 86).map (fun i => (i.zero, i.size, i.bytes)) = some (some (.agg (hcells hart0)), 37, 160) := by kernel_rfl
theorem clone_harts (v : Value) (n : Nat) (xs : List Value) (w : World) (hv : Sl w v 37 n xs) (h1c : ∀ u ∈ xs, u.oneCell' = true) (hr : n * 160 ≤ 140737488355328) :
    Calls Try.prog 85 #[v] w fun e w' => (∃ v', e = .returned v' ∧ w'.ownsRow w.heap.size 86 37 v' n xs ∧ (v' = .slice none 0 0 → v = .slice none 0 0)) ∧ Below w.heap.size w w' := by
  obtain ⟨hlen, ao, cap, rfl, hnc, hcm, hnone, hat⟩ := hv
  have heq := fun (W : World) (m c : Nat) => Lib.run_eql_slice_nil (P := Try.prog) W 23 86 ao m c 0 0 Try.underlying23
  unfold maxLen at hcm
  cases ao with
  | none =>
    obtain rfl : cap = 0 := hnone rfl
    obtain rfl : n = 0 := by omega
    obtain rfl : xs = [] := List.eq_nil_of_length_eq_zero (by simpa using hlen)
    clear hnone hat
    go_enter Try.func85, Try.ntmps85
    go_wp2
    go_ret
    exact ⟨⟨_, rfl, World.ownsRow_nil _ _ _ _, by simp⟩, Below.refl _ _⟩
  | some a =>
    obtain ⟨i0, hi, hz0, hz1, hz2⟩ := info_parts info_harts
    clear hnone
    have HAT := Lib.hid hat
    have HL := Lib.hid hlen
    have HC := Lib.hid h1c
    clear hat hlen h1c
    go_enter Try.func85, Try.ntmps85
    go_wp2_with (at_builtin; refine wpList_append_own _ rfl _ _ 23 rfl w.heap.size 86 i0 (.agg (hcells hart0)) 37 160 Try.underlying23 hi hz0 hz1 hz2 rfl (by decide) _ 0 [] rfl ?_ a n cap xs rfl HL.out ?_ HC.out ?_ ?_ ?_ ?_)
    rotate_right
    · intro v' w1 hown hgrow hnil
      go_wp2
      go_ret
      refine ⟨⟨_, rfl, ?_, ?_⟩, ?_⟩
      · simpa using hown
      · intro h
        exact (hnil h).elim
      · exact (Below.alloc (Below.refl _ _) (Nat.le_refl _) _).grown hgrow (by simp) (by intro k hk; simp [Value.ownBlock] at hk; omega)
    all_goals (first | (unfold maxLen; omega) | omega | (simp; done) | skip)
    · exact ownsRow_built _ _ _ _ (Nat.le_refl _)
    · intro j u hu
      have hj : j < xs.length := (List.getElem?_eq_some_iff.1 hu).1
      have hne : xs ≠ [] := by intro e; rw [e] at hj; simp at hj
      have h3 := (HAT.out a rfl hne)
      have h4 := h3.2 j hj
      have hu2 : u = xs[j] := by rw [List.getElem?_eq_getElem hj] at hu; exact (Option.some.inj hu).symm
      rw [hu2, addr_add a h3.1, World.cell?_alloc_lt _ _ _ (lt_of_cell h4)]
      exact h4
theorem begin_any (vm0 vh0 : Value) (m : Mach) (wf : m.Wf) (w : World) (hm : MachAt w vm0 vh0 m) (h1 : 1 ≤ m.harts.length) (h4 : m.harts.length ≤ 4) (hl : m.mem.length ≤ 4096) :
    Calls Try.prog 58 #[.agg #[vm0, vh0]] w fun e w' => (∃ bp bh hc vm, e = .returned (.pointer (some ⟨bp, 0, none⟩)) ∧ Bd bp bh hc vm (.slice none 0 0) 33 w' (startM m) ∧ w.heap.size ≤ bh ∧ (∀ k, vm.ownBlock = some k → w.heap.size ≤ k)) ∧ Below w.heap.size w w' := by
  have HM := Lib.hid hm
  obtain ⟨aom, capm, rfl, hcm, hmm, _, _⟩ := hm.1.open
  obtain ⟨aoh, caph, rfl, hch, hmh, _, _⟩ := hm.2.open (fun h hh => hlist_length (wf.harts h hh)) (by omega)
  have HC1 := Lib.hid (fun W hW => clone_bytes (.slice aom m.mem.length capm) m.mem.length (m.mem.map (Value.int .u8)) W hW (by intro u hu; obtain ⟨a, _, rfl⟩ := List.mem_map.1 hu; rfl) (by omega))
  have HC2 := Lib.hid (fun W hW => clone_harts (.slice aoh m.harts.length caph) m.harts.length (m.harts.flatMap hlist) W hW (by intro u hu; obtain ⟨h, _, hu⟩ := List.mem_flatMap.1 hu; exact hlist_one h u (by simpa [hcells] using hu)) (by omega))
  obtain ⟨w1, hw1⟩ : ∃ w1, w1 = w.alloc (.cells #[.slice aom m.mem.length capm, .slice aoh m.harts.length caph] 25) := ⟨_, rfl⟩
  have hb1 : Below w.heap.size w w1 := by rw [hw1]; exact Fb.blw
  have hs1 : w1.heap.size = w.heap.size + 1 := by rw [hw1]; simp
  have c0 : w1.cell? ⟨w.heap.size, 0, none⟩ = some (.slice aom m.mem.length capm) := by rw [hw1]; go_cell
  have c1 : w1.cell? ⟨w.heap.size, 1, none⟩ = some (.slice aoh m.harts.length caph) := by rw [hw1]; go_cell
  have l1 : w.heap.size < w1.heap.size := by omega
  have KP : Hid (∀ w', Below w1.heap.size w1 w' → Below w1.heap.size w1 w' ∧ w'.cell? ⟨w.heap.size, 0, none⟩ = some (.slice aom m.mem.length capm) ∧ w'.cell? ⟨w.heap.size, 1, none⟩ = some (.slice aoh m.harts.length caph)) :=
    Lib.hid (fun w' h => ⟨h, (h.cell (p := ⟨w.heap.size, 0, none⟩) l1).trans c0, (h.cell (p := ⟨w.heap.size, 1, none⟩) l1).trans c1⟩)
  have HM1 := Lib.hid (HM.out.below hb1)
  have HW1 := Lib.hid hw1
  have HB1 := Lib.hid hb1
  have HS1 := Lib.hid hs1
  clear hm hw1 hb1 hs1 c0 c1 l1
  go_enter Try.func58, Try.ntmps58
  go_upto_region 1 with (fail)
  rw [← HW1.out]
  go_region_held3 (fun w' => Below w1.heap.size w1 w' ∧ w'.cell? ⟨w.heap.size, 0, none⟩ = some (.slice aom m.mem.length capm) ∧ w'.cell? ⟨w.heap.size, 1, none⟩ = some (.slice aoh m.harts.length caph))
    ((refine KP.out _ ?_; (repeat (first | with_reducible exact Below.refl _ _ | with_reducible exact hK | with_reducible refine below_drewN ?_ _ | with_reducible refine Below.drew ?_ | ((with_reducible refine Below.alloc ?_ ?hq _); (case hq => (first | (simp; done) | (simp; omega) | exact hK.size)))))))
    ((first
      | (go_at_call 48; refine (HC1.out _ (HM1.out.1.below ?hB)).mono ?_; (case hB => (repeat (first | with_reducible exact Below.refl _ _ | with_reducible exact hK | with_reducible refine below_drewN ?_ _ | with_reducible refine Below.drew ?_))); rintro e wx ⟨⟨vm, rfl, hown1, _⟩, hbm⟩; obtain ⟨ax, cx, rfl⟩ := owns_slice hown1; (have HO1 := Lib.hid hown1); clear hown1; have hK : Below w1.heap.size w1 wx := (Below.trans (by (repeat (first | with_reducible exact Below.refl _ _ | with_reducible exact hK | with_reducible refine below_drewN ?_ _ | with_reducible refine Below.drew ?_))) (hbm.mono (by first | exact hK.size | (simp; done)))))
      | (go_at_call 85; refine (HC2.out _ (HM1.out.2.below ?hB)).mono ?_; (case hB => (repeat (first | with_reducible exact Below.refl _ _ | with_reducible exact hK | with_reducible refine below_drewN ?_ _ | with_reducible refine Below.drew ?_))); rintro e wy ⟨⟨vh, rfl, hown2, _⟩, hbh⟩; obtain ⟨ay, cy, rfl⟩ := owns_slice hown2; (have HO2 := Lib.hid hown2); clear hown2; have hK : Below w1.heap.size w1 wy := (Below.trans (by (repeat (first | with_reducible exact Below.refl _ _ | with_reducible exact hK | with_reducible refine below_drewN ?_ _ | with_reducible refine Below.drew ?_))) (hbh.mono (by first | exact hK.size | (simp; done)))))))
  all_goals
    go_wp2_with fail
    go_ret
    have hne : ∀ k, (Value.slice ax m.mem.length cx).ownBlock = some k → (Value.slice ay m.harts.length cy).ownBlock ≠ some k := fun k e1 e2 => by
      have h1 := HO1.out.lt k e1
      have h2 := HO2.out.lt k e2
      omega
    have hs1 := HS1.out
    have h0 : w.heap.size ≤ w1.drew.heap.size := by show w.heap.size ≤ w1.heap.size; omega
    first
    | (have o1 := owns_below HO1.out hbh
       have hz := hbm.size
       have hK : Below w1.heap.size w1 wy := (Below.trans (Below.drew (Below.refl _ _)) hbm).trans (hbh.mono hz)
       obtain ⟨bh, hc', e, hB2, hbd⟩ := Bd.begin (w := wy) (tB := 112) (ty := 33) o1 HO2.out hne h1
       exact ⟨⟨_, bh, hc', _, rfl, hbd, by omega, fun k e => by have := HO1.out.lt k e; omega⟩, HB1.out.trans ((Below.alloc hK (by have := hK.size; omega) _).mono (by omega))⟩)
    | (have o2 := owns_below HO2.out hbm
       have hz := hbh.size
       have hK : Below w1.heap.size w1 wx := (Below.trans (Below.drew (Below.refl _ _)) hbh).trans (hbm.mono hz)
       obtain ⟨bh, hc', e, hB2, hbd⟩ := Bd.begin (w := wx) (tB := 112) (ty := 33) HO1.out o2 hne h1
       exact ⟨⟨_, bh, hc', _, rfl, hbd, by omega, fun k e => by have := HO1.out.lt k e; omega⟩, HB1.out.trans ((Below.alloc hK (by have := hK.size; omega) _).mono (by omega))⟩)
end Go.Proofs.Ytlfnddmncbkjaaa.W
