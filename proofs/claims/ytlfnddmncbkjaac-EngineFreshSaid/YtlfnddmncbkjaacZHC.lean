import Derived.Test.YtlfnddmncbkjaacZMB
import Derived.Test.YtlfnddmncbkjaacZGO
import Derived.Test.YtlfnddmncbkjaacZMA
set_option linter.unusedVariables false
set_option linter.unusedSimpArgs false
set_option maxRecDepth 100000
set_option maxHeartbeats 4000000
namespace Go.Proofs.Ytlfnddmncbkjaac.W
open Go.RowKit Fb
theorem info_harts : (Try.prog.info? 67).map (fun i => (i.zero, i.size, i.bytes)) = some (some (.agg (hcells hart0)), 37, 160) := by kernel_rfl
theorem clone_harts (v : Value) (n : Nat) (xs : List Value) (w : World) (hv : Sl w v 37 n xs) (h1c : ∀ u ∈ xs, u.oneCell' = true) (hr : n * 160 ≤ 140737488355328) :
    Calls Try.prog 45 #[v] w fun e w' => (∃ v', e = .returned v' ∧ w'.ownsRow w.heap.size 67 37 v' n xs ∧ (v' = .slice none 0 0 → v = .slice none 0 0)) ∧ Below w.heap.size w w' := by
  obtain ⟨hlen, ao, cap, rfl, hnc, hcm, hnone, hat⟩ := hv
  have heq := fun (W : World) (m c : Nat) => Lib.run_eql_slice_nil (P := Try.prog) W 23 67 ao m c 0 0 Try.underlying23
  unfold maxLen at hcm
  cases ao with
  | none =>
    obtain rfl : cap = 0 := hnone rfl
    obtain rfl : n = 0 := om
    obtain rfl : xs = [] := List.eq_nil_of_length_eq_zero (by simpa using hlen)
    clear hnone hat
    go_enter Try.func45, Try.ntmps45
    go_wp2
    go_ret
    exact ⟨⟨_, rfl, World.ownsRow_nil _ _ _ _, by simp⟩, Below.refl _ _⟩
  | some a =>
    obtain ⟨i0, hi, hz0, hz1, hz2⟩ := info_parts info_harts
    clear hnone
    have HAT := lI hat
    have HL := lI hlen
    have HC := lI h1c
    clear hat hlen h1c
    go_enter Try.func45, Try.ntmps45
    go_wp2_with (at_builtin; refine wpList_append_own _ rfl _ _ 23 rfl w.heap.size 67 i0 (.agg (hcells hart0)) 37 160 Try.underlying23 hi hz0 hz1 hz2 rfl zI _ 0 [] rfl ?_ a n cap xs rfl HL.out ?_ HC.out ?_ ?_ ?_ ?_)
    rotate_right
    · intro v' w1 hown hgrow hnil
      go_wp2
      go_ret
      refine ⟨⟨_, rfl, ?_, ?_⟩, ?_⟩
      · simpa using hown
      · intro h
        exact (hnil h).elim
      · exact (Below.alloc br (Nat.le_refl _) _).grown hgrow zD (by intro k hk; simp [Value.ownBlock] at hk; omega)
    all_goals (first | (unfold maxLen; omega) | omega | (simp; done) | skip)
    · exact ownsRow_built _ _ _ _ (Nat.le_refl _)
    · intro j u hu
      have hj : j < xs.length := (List.getElem?_eq_some_iff.1 hu).1
      have hne : xs ≠ [] := by intro e; rw [e] at hj; simp at hj
      have h3 := (HAT.out a rfl hne)
      have h4 := h3.2 j hj
      have hu2 : u = xs[j] := by rw [List.getElem?_eq_getElem hj] at hu; exact (Option.some.inj hu).symm
      rw [hu2, addr_add a h3.1, World.cell?_alloc_lt _ _ _ (lt_of_cell h4)]
      exact h4
theorem begin_any (vm0 vh0 : Value) (m : Mach) (wf : m.Wf) (w : World) (hm : MachAt w vm0 vh0 m) (h1 : 1 ≤ m.harts.length) (h4 : m.harts.length ≤ 4) (hl : m.mem.length ≤ 4096) :
    Calls Try.prog 26 #[.agg #[vm0, vh0]] w fun e w' => (∃ bp bh hc vm, e = .returned (.pointer (some ⟨bp, 0, none⟩)) ∧ Bd bp bh hc vm (.slice none 0 0) 58 w' (startM m) ∧ w.heap.size ≤ bh ∧ (∀ k, vm.ownBlock = some k → w.heap.size ≤ k)) ∧ Below w.heap.size w w' := by
  have HM := lI hm
  obtain ⟨aom, capm, rfl, hcm, hmm, _, _⟩ := hm.1.open
  obtain ⟨aoh, caph, rfl, hch, hmh, _, _⟩ := hm.2.open (fun h hh => hlist_length (wf.harts h hh)) om
  have HC1 := lI (fun W hW => clone_bytes (.slice aom m.mem.length capm) m.mem.length (m.mem.map (Value.int .u8)) W hW (by intro u hu; obtain ⟨a, _, rfl⟩ := List.mem_map.1 hu; rfl) om)
  have HC2 := lI (fun W hW => clone_harts (.slice aoh m.harts.length caph) m.harts.length (m.harts.flatMap hlist) W hW (by intro u hu; obtain ⟨h, _, hu⟩ := List.mem_flatMap.1 hu; exact hlist_one h u (by simpa [hcells] using hu)) om)
  obtain ⟨w1, hw1⟩ : ∃ w1, w1 = w.alloc (.cells #[.slice aom m.mem.length capm, .slice aoh m.harts.length caph] 25) := ⟨_, rfl⟩
  have hb1 : Below w.heap.size w w1 := by rw [hw1]; exact Fb.blw
  have hs1 : w1.heap.size = w.heap.size + 1 := by rw [hw1]; simp
  have c0 : w1.cell? ⟨w.heap.size, 0, none⟩ = some (.slice aom m.mem.length capm) := by rw [hw1]; go_cell
  have c1 : w1.cell? ⟨w.heap.size, 1, none⟩ = some (.slice aoh m.harts.length caph) := by rw [hw1]; go_cell
  have l1 : w.heap.size < w1.heap.size := om
  have KP : Hid (∀ w', Below w1.heap.size w1 w' → Below w1.heap.size w1 w' ∧ w'.cell? ⟨w.heap.size, 0, none⟩ = some (.slice aom m.mem.length capm) ∧ w'.cell? ⟨w.heap.size, 1, none⟩ = some (.slice aoh m.harts.length caph)) :=
    lI (fun w' h => ⟨h, (h.cell (p := ⟨w.heap.size, 0, none⟩) l1).trans c0, (h.cell (p := ⟨w.heap.size, 1, none⟩) l1).trans c1⟩)
  have HM1 := lI (HM.out.below hb1)
  have HW1 := lI hw1
  have HB1 := lI hb1
  have HS1 := lI hs1
  clear hm hw1 hb1 hs1 c0 c1 l1
  go_enter Try.func26, Try.ntmps26
  go_upto_region 1 with (fail)
  rw [← HW1.out]
  go_region_held3 (fun w' => Below w1.heap.size w1 w' ∧ w'.cell? ⟨w.heap.size, 0, none⟩ = some (.slice aom m.mem.length capm) ∧ w'.cell? ⟨w.heap.size, 1, none⟩ = some (.slice aoh m.harts.length caph))
    ((refine KP.out _ ?_; (repeat (first | with_reducible exact Below.refl _ _ | with_reducible exact hK | with_reducible refine below_drewN ?_ _ | with_reducible refine Below.drew ?_ | ((with_reducible refine Below.alloc ?_ ?hq _); (case hq => (first | (simp; done) | (simp; omega) | exact hK.size)))))))
    ((first
      | (go_at_call 44; refine (HC1.out _ (HM1.out.1.below ?hB)).mono ?_; (case hB => (repeat (first | with_reducible exact Below.refl _ _ | with_reducible exact hK | with_reducible refine below_drewN ?_ _ | with_reducible refine Below.drew ?_))); rintro e wx ⟨⟨vm, rfl, hown1, _⟩, hbm⟩; obtain ⟨ax, cx, rfl⟩ := owns_slice hown1; (have HO1 := lI hown1); clear hown1; have hK : Below w1.heap.size w1 wx := (Below.trans (by (repeat (first | with_reducible exact Below.refl _ _ | with_reducible exact hK | with_reducible refine below_drewN ?_ _ | with_reducible refine Below.drew ?_))) (hbm.mono (by first | exact hK.size | (simp; done)))))
      | (go_at_call 45; refine (HC2.out _ (HM1.out.2.below ?hB)).mono ?_; (case hB => (repeat (first | with_reducible exact Below.refl _ _ | with_reducible exact hK | with_reducible refine below_drewN ?_ _ | with_reducible refine Below.drew ?_))); rintro e wy ⟨⟨vh, rfl, hown2, _⟩, hbh⟩; obtain ⟨ay, cy, rfl⟩ := owns_slice hown2; (have HO2 := lI hown2); clear hown2; have hK : Below w1.heap.size w1 wy := (Below.trans (by (repeat (first | with_reducible exact Below.refl _ _ | with_reducible exact hK | with_reducible refine below_drewN ?_ _ | with_reducible refine Below.drew ?_))) (hbh.mono (by first | exact hK.size | (simp; done)))))))
  all_goals
    go_wp2_with fail
    go_ret
    have hne : ∀ k, (Value.slice ax m.mem.length cx).ownBlock = some k → (Value.slice ay m.harts.length cy).ownBlock ≠ some k := fun k e1 e2 => by
      have h1 := HO1.out.lt k e1
      have h2 := HO2.out.lt k e2
      omega
    have hs1 := HS1.out
    have h0 : w.heap.size ≤ w1.drew.heap.size := by show w.heap.size ≤ w1.heap.size; omega
    first
    | (have o1 := owns_below HO1.out hbh
       have hz := hbm.size
       have hK : Below w1.heap.size w1 wy := (Below.trans (Below.drew br) hbm).trans (hbh.mono hz)
       obtain ⟨bh, hc', e, hB2, hbd⟩ := Bd.begin (w := wy) (tB := 78) (ty := 58) o1 HO2.out hne h1
       exact ⟨⟨_, bh, hc', _, rfl, hbd, om, fun k e => by have := HO1.out.lt k e; omega⟩, HB1.out.trans ((Below.alloc hK (by have := hK.size; omega) _).mono om)⟩)
    | (have o2 := owns_below HO2.out hbm
       have hz := hbh.size
       have hK : Below w1.heap.size w1 wx := (Below.trans (Below.drew br) hbh).trans (hbm.mono hz)
       obtain ⟨bh, hc', e, hB2, hbd⟩ := Bd.begin (w := wx) (tB := 78) (ty := 58) HO1.out o2 hne h1
       exact ⟨⟨_, bh, hc', _, rfl, hbd, om, fun k e => by have := HO1.out.lt k e; omega⟩, HB1.out.trans ((Below.alloc hK (by have := hK.size; omega) _).mono om)⟩)
theorem box_hart (h : Hart) (w : World) (t : TypeId) : At (w.alloc (.cells (hcells h) t)) w.heap.size 0 (hlist h) := at_alloc w (hlist h) t (0, 0)
theorem may_any (h : Hart) (wf : h.Wf) (w : World) :
    Calls Try.prog 43 #[.agg (hcells h)] w fun e w' => e = .returned (.bool h.ok) ∧ Below w.heap.size w w' := by
  have hb := box_hart h w 67
  have c0 : (w.alloc (.cells (hcells h) 67)).cell? ⟨w.heap.size, 0, none⟩ = some (.int .u32 (h.regs.getD 0 0)) := hb.get (j := 0) (hlist_reg wf 0 om)
  have c33 : (w.alloc (.cells (hcells h) 67)).cell? ⟨w.heap.size, 33, none⟩ = some (.bool h.held) := by simpa using hb.get (hlist_held wf)
  have c34 : (w.alloc (.cells (hcells h) 67)).cell? ⟨w.heap.size, 34, none⟩ = some (.int .u32 h.heldAt) := by simpa using hb.get (hlist_heldAt wf)
  have c35 : (w.alloc (.cells (hcells h) 67)).cell? ⟨w.heap.size, 35, none⟩ = some (.int .i64 h.state) := by simpa using hb.get (hlist_state wf)
  have c36 : (w.alloc (.cells (hcells h) 67)).cell? ⟨w.heap.size, 36, none⟩ = some (.int .i64 h.cause) := by simpa using hb.get (hlist_cause wf)
  have HOK := lI (show h.ok = ((h.regs.getD 0 0 == 0) && (h.held || h.heldAt == 0) && ((h.state == 2 && decide (1 ≤ h.cause) && decide (h.cause ≤ 6)) || ((h.state == 0 || h.state == 1) && h.cause == 0))) from rfl)
  generalize h.ok = ok at *
  generalize h.regs.getD 0 0 = r0 at *
  generalize h.held = hd at *
  generalize h.heldAt = ha at *
  generalize h.state = st at *
  generalize h.cause = ca at *
  clear hb
  go_enter Try.func43, Try.ntmps43
  go_wp2
  all_goals go_ret
  all_goals refine ⟨ret_bool ?_, by go_grown⟩
  all_goals rw [HOK.out]
  all_goals clear HOK c0 c33 c34 c35 c36
  all_goals (try simp only [beq_iff_eq, beq_eq_false_iff_ne, ne_eq] at *)
  all_goals first | (simp [*]; done) | (simp [*]; omega) | (rw [Bool.eq_iff_iff]; simp [*]; omega) | (simp_all; done) | (simp_all; omega)
theorem may4_any (h : Hart) (wf : h.Wf) (w : World) :
    Calls Try.prog 32 #[.agg (hcells h)] w fun e w' => e = .returned (.bool h.ok) ∧ Below w.heap.size w w' := by
  have hb := box_hart h w 67
  have c0 : (w.alloc (.cells (hcells h) 67)).cell? ⟨w.heap.size, 0, none⟩ = some (.int .u32 (h.regs.getD 0 0)) := hb.get (j := 0) (hlist_reg wf 0 om)
  have c33 : (w.alloc (.cells (hcells h) 67)).cell? ⟨w.heap.size, 33, none⟩ = some (.bool h.held) := by simpa using hb.get (hlist_held wf)
  have c34 : (w.alloc (.cells (hcells h) 67)).cell? ⟨w.heap.size, 34, none⟩ = some (.int .u32 h.heldAt) := by simpa using hb.get (hlist_heldAt wf)
  have c35 : (w.alloc (.cells (hcells h) 67)).cell? ⟨w.heap.size, 35, none⟩ = some (.int .i64 h.state) := by simpa using hb.get (hlist_state wf)
  have c36 : (w.alloc (.cells (hcells h) 67)).cell? ⟨w.heap.size, 36, none⟩ = some (.int .i64 h.cause) := by simpa using hb.get (hlist_cause wf)
  have HOK := lI (show h.ok = ((h.regs.getD 0 0 == 0) && (h.held || h.heldAt == 0) && ((h.state == 2 && decide (1 ≤ h.cause) && decide (h.cause ≤ 6)) || ((h.state == 0 || h.state == 1) && h.cause == 0))) from rfl)
  generalize h.ok = ok at *
  generalize h.regs.getD 0 0 = r0 at *
  generalize h.held = hd at *
  generalize h.heldAt = ha at *
  generalize h.state = st at *
  generalize h.cause = ca at *
  clear hb
  go_enter Try.func32, Try.ntmps32
  go_wp2
  all_goals go_ret
  all_goals refine ⟨ret_bool ?_, by go_grown⟩
  all_goals rw [HOK.out]
  all_goals clear HOK c0 c33 c34 c35 c36
  all_goals (try simp only [beq_iff_eq, beq_eq_false_iff_ne, ne_eq] at *)
  all_goals first | (simp [*]; done) | (simp [*]; omega) | (rw [Bool.eq_iff_iff]; simp [*]; omega) | (simp_all; done) | (simp_all; omega)
theorem machmay_any (vm vh vs : Value) (m : Mach) (wf : m.Wf) (script : List (Int × Int)) (w : World) (hm : MachAt w vm vh m) (hs : Picks w vs script) (hp : ∀ p ∈ script, i64ok p.1 ∧ i64ok p.2) :
    Calls Try.prog 25 #[.agg #[vm, vh], vs] w fun e w' => e = .returned (.int .i64 (wrong m script)) ∧ Below w.heap.size w w' := by
  obtain ⟨aom, capm, rfl, hcm, hmm, _, _⟩ := hm.1.open
  obtain ⟨aoh, caph, rfl, hch, hmh, _, hoh⟩ := hm.2.open (fun h hh => hlist_length (wf.harts h hh)) om
  obtain ⟨aos, caps, rfl, hcs, hms, _, hos⟩ := hs.open (fun _ _ => rfl) om
  unfold maxLen at hmm hmh hms
  by_cases c1 : 4096 < m.mem.length
  · have W : wrong m script = 2 := by simp [wrong, c1]
    go_enter Try.func25, Try.ntmps25
    go_wp2
    all_goals go_ret
    all_goals exact ⟨by first | rfl | (rw [W]; rfl), by go_grown⟩
  by_cases c2 : m.harts.length < 1
  · have W : wrong m script = 2 := by simp [wrong, c2]
    go_enter Try.func25, Try.ntmps25
    go_wp2
    all_goals go_ret
    all_goals exact ⟨by first | rfl | (rw [W]; rfl), by go_grown⟩
  by_cases c3 : 4 < m.harts.length
  · have W : wrong m script = 2 := by simp [wrong, c3]
    go_enter Try.func25, Try.ntmps25
    go_wp2
    all_goals go_ret
    all_goals exact ⟨by first | rfl | (rw [W]; rfl), by go_grown⟩
  go_enter Try.func25, Try.ntmps25
  go_wp2_with fail
  have hc0 : (w.alloc (.cells #[.slice aom m.mem.length capm, .slice aoh m.harts.length caph] 25)).cell? ⟨w.heap.size, 1, none⟩ = some (.slice aoh m.harts.length caph) := by go_cell
  have hb0 : Below w.heap.size w (w.alloc (.cells #[.slice aom m.mem.length capm, .slice aoh m.harts.length caph] 25)) := by go_grown
  have hs0 : (w.alloc (.cells #[.slice aom m.mem.length capm, .slice aoh m.harts.length caph] 25)).heap.size = w.heap.size + 1 := by simp
  generalize w.alloc (.cells #[.slice aom m.mem.length capm, .slice aoh m.harts.length caph] 25) = w1 at *
  have HO := lI hoh
  have HS := lI hos
  clear hoh hos
  go_loopw [28] (fun i wr => ∃ k : Nat, i = .int .i64 k ∧ k ≤ m.harts.length ∧ Hid (∀ j (h : j < m.harts.length), j < k → m.harts[j].ok = true) ∧ ∃ w2, wr = w2 ∧ Below w1.heap.size w1 w2) (fun i _ => m.harts.length - (intOf i).toNat)
  case atStart => exact ⟨0, rfl, om, lI (by intro j h hj; omega), _, rfl, Below.refl _ _⟩
  case round =>
    obtain ⟨k, rfl, hk, hok, w2, rfl, hbr⟩ := hrel
    have hb2 := hb0.trans (hbr.mono om)
    by_cases hlt : k < m.harts.length
    · obtain ⟨b, off, rfl, hbl, hel⟩ := HO.out zK
      have hat : At wr b (off + k * 37) (hlist m.harts[k]) := (hel k hlt).below hb2
      clear hel
      have wfk : m.harts[k].Wf := wf.harts _ (List.getElem_mem hlt)
      have hsz : (Try.prog.info? 67).map (·.size) = some (hcells m.harts[k]).size := by rw [hcells_size wfk]; kernel_rfl
      have hbox := box_hart m.harts[k] wr 67
      go_wp2_with (first | (refine wpList_load_at rfl 67 _ rfl b (off + k * 37) rfl (hcells m.harts[k]) _ hat Try.underlying67 rfl hsz ?_) | (refine wpList_store_new rfl 67 _ _ rfl wr _ (hcells m.harts[k]) rfl rfl rfl hsz (by rw [hcells_size wfk]; rfl) (hlist_one _) ?_) | (refine wpList_load_at rfl 67 _ rfl wr.heap.size 0 rfl (hcells m.harts[k]) _ hbox Try.underlying67 rfl hsz ?_))
      refine (may_any m.harts[k] wfk _).mono ?_
      rintro e w3 ⟨rfl, hb3⟩
      have hb4 : Below w1.heap.size w1 w3 := hbr.trans (Below.trans (Below.alloc br hbr.size _) (hb3.mono (by simp; have := hbr.size; omega)))
      cases hko : m.harts[k].ok with
      | false =>
        have W : wrong m script = 2 := by
          have : m.harts.any (fun h => !h.ok) = true := List.any_eq_true.2 ⟨m.harts[k], List.getElem_mem hlt, by simp [hko]⟩
          simp [wrong, c1, c2, c3, this]
        clear hok HO HS hat hbox hsz hm hs
        go_wp2
        go_ret
        exact ⟨by first | rfl | (rw [W]; rfl), hb0.trans (hb4.mono om)⟩
      | true =>
        have hok2 : Hid (∀ j (h : j < m.harts.length), j < k + 1 → m.harts[j].ok = true) := lI (fun j h hj => if e : j = k then by subst e; exact hko else hok.out j h om)
        clear hok HO HS hat hbox hsz hm hs
        go_wp2
        go_roundw
        case rel => exact ⟨k + 1, by go_num, om, hok2, _, rfl, hb4⟩
        case measure => simp [intOf]; omega
    · have hall : m.harts.any (fun h => !h.ok) = false := by
        rw [List.any_eq_false]
        intro h hh
        obtain ⟨j, hj, rfl⟩ := List.getElem_of_mem hh
        simp [hok.out j hj om]
      have hkn : k = m.harts.length := om
      subst hkn
      have hcm1 := (hbr.cell (p := ⟨w.heap.size, 1, none⟩) zO).trans hc0
      have hb5 := hb0.trans (hbr.mono om)
      have hsz5 := hbr.size
      clear hok HO hm hc0 hb2
      by_cases c4 : 300 < script.length
      · have W : wrong m script = 1 := by simp [wrong, c1, c2, c3, hall, c4]
        clear HS hs
        go_wp2
        go_ret
        exact ⟨by first | rfl | (rw [W]; rfl), hb5⟩
      go_wp2_with fail
      obtain ⟨wo, rfl⟩ : ∃ wo : World, wo = wr := ⟨_, rfl⟩
      have hlt5 : w.heap.size < wo.heap.size := om
      go_loopw [41] (fun i wx => ∃ k : Nat, i = .int .i64 k ∧ k ≤ script.length ∧ Hid (∀ j (h : j < script.length), j < k → badPick m.harts.length script[j] = false) ∧ ∃ w2, wx = w2 ∧ Below wo.heap.size wo w2) (fun i _ => script.length - (intOf i).toNat)
      case atStart => exact ⟨0, rfl, om, lI (by intro j h hj; omega), _, rfl, Below.refl _ _⟩
      case round =>
        obtain ⟨k, rfl, hk, hok, wq, hwq, hbq⟩ := hrel
        subst hwq
        have hcq := (hbq.cell (p := ⟨w.heap.size, 1, none⟩) hlt5).trans hcm1
        have hb6 := hb5.trans (hbq.mono hb5.size)
        have hsz6 : wo.heap.size ≤ wr.heap.size := hbq.size
        have hlt6 : w.heap.size < wr.heap.size := om
        clear hcm1
        by_cases hlt : k < script.length
        · obtain ⟨b, off, rfl, hbl, hel⟩ := HS.out zK
          have hat := (hel k hlt).below hb6
          have d0 := hat.get (j := 0) (v := .int .i64 script[k].1) rfl
          have d1 := hat.get (j := 1) (v := .int .i64 script[k].2) rfl
          simp only [Nat.add_zero] at d0
          obtain ⟨⟨q1, q2⟩, q3, q4⟩ := hp _ (List.getElem_mem hlt)
          have HB : Hid (badPick m.harts.length script[k] = (decide (script[k].1 < 0) || decide ((m.harts.length : Int) ≤ script[k].1) || decide (script[k].2 < 0) || decide (400 < script[k].2))) := lI rfl
          have hok2 : Hid (badPick m.harts.length script[k] = false → ∀ j (h : j < script.length), j < k + 1 → badPick m.harts.length script[j] = false) := lI (fun hf j h hj => if e : j = k then by subst e; exact hf else hok.out j h om)
          have W : Hid (badPick m.harts.length script[k] = true → wrong m script = 3) := lI (fun hf => by
            have : script.any (badPick m.harts.length) = true := List.any_eq_true.2 ⟨script[k], List.getElem_mem hlt, hf⟩
            simp [wrong, c1, c2, c3, hall, c4, this])
          clear hel hok HS hs hp hat
          generalize badPick m.harts.length script[k] = bad at *
          generalize script[k].1 = x at *
          generalize script[k].2 = y at *
          go_wp2
          all_goals first
            | (go_ret
               refine ⟨?_, hb6.trans (by go_grown)⟩
               have hbt : bad = true := by rw [HB.out]; clear HB W; simp [*]; try omega
               have hw := W.out hbt
               first | rfl | (rw [hw]; rfl))
            | (go_roundw
               case rel =>
                have hbt : bad = false := by rw [HB.out]; clear HB W; simp; omega
                exact ⟨k + 1, by go_num, om, lI (hok2.out hbt), _, rfl, hbq.trans (by go_grown)⟩
               case measure => simp [intOf]; omega)
        · have hall2 : script.any (badPick m.harts.length) = false := by
            rw [List.any_eq_false]
            intro h hh
            obtain ⟨j, hj, rfl⟩ := List.getElem_of_mem hh
            simp [hok.out j hj om]
          have W : wrong m script = 0 := by simp [wrong, c1, c2, c3, hall, c4, hall2]
          clear hok HS hs
          go_wp2
          go_ret
          exact ⟨by first | rfl | (rw [W]; rfl), hb6⟩
end Go.Proofs.Ytlfnddmncbkjaac.W
