import Derived.Test.YtlfnddmncbkjaaaZMA
import Derived.Test.YtlfnddmncbkjaaaZWMay
set_option linter.unusedVariables false
set_option linter.unusedSimpArgs false
set_option maxRecDepth 100000
set_option maxHeartbeats 4000000
namespace Go.Proofs.Ytlfnddmncbkjaaa.W
open Go.RowKit Fb
theorem machmay_any (vm vh vs : Value) (m : Mach) (wf : m.Wf) (script : List (Int × Int)) (w : World) (hm : MachAt w vm vh m) (hs : Picks w vs script) (hp : ∀ p ∈ script, i64ok p.1 ∧ i64ok p.2) :
    Calls Try.prog 41 #[.agg #[vm, vh], vs] w fun e w' => e = .returned (.int .i64 (wrong m script)) ∧ Below w.heap.size w w' := by
  obtain ⟨aom, capm, rfl, hcm, hmm, _, _⟩ := hm.1.open
  obtain ⟨aoh, caph, rfl, hch, hmh, _, hoh⟩ := hm.2.open (fun h hh => hlist_length (wf.harts h hh)) (by omega)
  obtain ⟨aos, caps, rfl, hcs, hms, _, hos⟩ := hs.open (fun _ _ => rfl) (by omega)
  unfold maxLen at hmm hmh hms
  by_cases c1 : 4096 < m.mem.length
  · have W : wrong m script = 2 := by simp [wrong, c1]
    go_enter Try.func41, Try.ntmps41
    go_wp2
    all_goals go_ret
    all_goals exact ⟨by first | rfl | (rw [W]; rfl), by go_grown⟩
  by_cases c2 : m.harts.length < 1
  · have W : wrong m script = 2 := by simp [wrong, c2]
    go_enter Try.func41, Try.ntmps41
    go_wp2
    all_goals go_ret
    all_goals exact ⟨by first | rfl | (rw [W]; rfl), by go_grown⟩
  by_cases c3 : 4 < m.harts.length
  · have W : wrong m script = 2 := by simp [wrong, c3]
    go_enter Try.func41, Try.ntmps41
    go_wp2
    all_goals go_ret
    all_goals exact ⟨by first | rfl | (rw [W]; rfl), by go_grown⟩
  go_enter Try.func41, Try.ntmps41
  go_wp2_with fail
  have hc0 : (w.alloc (.cells #[.slice aom m.mem.length capm, .slice aoh m.harts.length caph] 25)).cell? ⟨w.heap.size, 1, none⟩ = some (.slice aoh m.harts.length caph) := by go_cell
  have hb0 : Below w.heap.size w (w.alloc (.cells #[.slice aom m.mem.length capm, .slice aoh m.harts.length caph] 25)) := by go_grown
  have hs0 : (w.alloc (.cells #[.slice aom m.mem.length capm, .slice aoh m.harts.length caph] 25)).heap.size = w.heap.size + 1 := by simp
  generalize w.alloc (.cells #[.slice aom m.mem.length capm, .slice aoh m.harts.length caph] 25) = w1 at *
  have HO := Lib.hid hoh
  have HS := Lib.hid hos
  clear hoh hos
  go_loopw [28] (fun i wr => ∃ k : Nat, i = .int .i64 k ∧ k ≤ m.harts.length ∧ Hid (∀ j (h : j < m.harts.length), j < k → m.harts[j].ok = true) ∧ ∃ w2, wr = w2 ∧ Below w1.heap.size w1 w2) (fun i _ => m.harts.length - (intOf i).toNat)
  case atStart => exact ⟨0, rfl, by omega, Lib.hid (by intro j h hj; omega), _, rfl, Below.refl _ _⟩
  case round =>
    obtain ⟨k, rfl, hk, hok, w2, rfl, hbr⟩ := hrel
    have hb2 := hb0.trans (hbr.mono (by omega))
    by_cases hlt : k < m.harts.length
    · obtain ⟨b, off, rfl, hbl, hel⟩ := HO.out (by intro e; rw [e] at hlt; simp at hlt)
      have hat : At wr b (off + k * 37) (hlist m.harts[k]) := (hel k hlt).below hb2
      clear hel
      have wfk : m.harts[k].Wf := wf.harts _ (List.getElem_mem hlt)
      have hsz : (Try.prog.info? 86).map (·.size) = some (hcells m.harts[k]).size := by rw [hcells_size wfk]; kernel_rfl
      have hbox := box_hart m.harts[k] wr 86
      go_wp2_with (first | (refine wpList_load_at rfl 86 _ rfl b (off + k * 37) rfl (hcells m.harts[k]) _ hat Try.underlying86 rfl hsz ?_) | (refine wpList_store_new rfl 86 _ _ rfl wr _ (hcells m.harts[k]) rfl rfl rfl hsz (by rw [hcells_size wfk]; rfl) (hlist_one _) ?_) | (refine wpList_load_at rfl 86 _ rfl wr.heap.size 0 rfl (hcells m.harts[k]) _ hbox Try.underlying86 rfl hsz ?_))
      refine (may_any m.harts[k] wfk _).mono ?_
      rintro e w3 ⟨rfl, hb3⟩
      have hb4 : Below w1.heap.size w1 w3 := hbr.trans (Below.trans (Below.alloc (Below.refl _ _) hbr.size _) (hb3.mono (by simp; have := hbr.size; omega)))
      cases hko : m.harts[k].ok with
      | false =>
        have W : wrong m script = 2 := by
          have : m.harts.any (fun h => !h.ok) = true := List.any_eq_true.2 ⟨m.harts[k], List.getElem_mem hlt, by simp [hko]⟩
          simp [wrong, c1, c2, c3, this]
        clear hok HO HS hat hbox hsz hm hs
        go_wp2
        go_ret
        exact ⟨by first | rfl | (rw [W]; rfl), hb0.trans (hb4.mono (by omega))⟩
      | true =>
        have hok2 : Hid (∀ j (h : j < m.harts.length), j < k + 1 → m.harts[j].ok = true) := Lib.hid (fun j h hj => if e : j = k then by subst e; exact hko else hok.out j h (by omega))
        clear hok HO HS hat hbox hsz hm hs
        go_wp2
        go_roundw
        case rel => exact ⟨k + 1, by go_num, by omega, hok2, _, rfl, hb4⟩
        case measure => simp [intOf]; omega
    · have hall : m.harts.any (fun h => !h.ok) = false := by
        rw [List.any_eq_false]
        intro h hh
        obtain ⟨j, hj, rfl⟩ := List.getElem_of_mem hh
        simp [hok.out j hj (by omega)]
      have hkn : k = m.harts.length := by omega
      subst hkn
      have hcm1 := (hbr.cell (p := ⟨w.heap.size, 1, none⟩) (by show w.heap.size < _; omega)).trans hc0
      have hb5 := hb0.trans (hbr.mono (by omega))
      have hsz5 := hbr.size
      clear hok HO hm hc0 hb2
      by_cases c4 : 300 < script.length
      · have W : wrong m script = 1 := by simp [wrong, c1, c2, c3, hall, c4]
        clear HS hs
        go_wp2
        go_ret
        exact ⟨by first | rfl | (rw [W]; rfl), hb5⟩
      go_wp2_with fail
      obtain ⟨wo, rfl⟩ : ∃ wo : World, wo = wr := ⟨_, rfl⟩
      have hlt5 : w.heap.size < wo.heap.size := by omega
      go_loopw [41] (fun i wx => ∃ k : Nat, i = .int .i64 k ∧ k ≤ script.length ∧ Hid (∀ j (h : j < script.length), j < k → badPick m.harts.length script[j] = false) ∧ ∃ w2, wx = w2 ∧ Below wo.heap.size wo w2) (fun i _ => script.length - (intOf i).toNat)
      case atStart => exact ⟨0, rfl, by omega, Lib.hid (by intro j h hj; omega), _, rfl, Below.refl _ _⟩
      case round =>
        obtain ⟨k, rfl, hk, hok, wq, hwq, hbq⟩ := hrel
        subst hwq
        have hcq := (hbq.cell (p := ⟨w.heap.size, 1, none⟩) hlt5).trans hcm1
        have hb6 := hb5.trans (hbq.mono hb5.size)
        have hsz6 : wo.heap.size ≤ wr.heap.size := hbq.size
        have hlt6 : w.heap.size < wr.heap.size := by omega
        clear hcm1
        by_cases hlt : k < script.length
        · obtain ⟨b, off, rfl, hbl, hel⟩ := HS.out (by intro e; rw [e] at hlt; simp at hlt)
          have hat := (hel k hlt).below hb6
          have d0 := hat.get (j := 0) (v := .int .i64 script[k].1) rfl
          have d1 := hat.get (j := 1) (v := .int .i64 script[k].2) rfl
          simp only [Nat.add_zero] at d0
          obtain ⟨⟨q1, q2⟩, q3, q4⟩ := hp _ (List.getElem_mem hlt)
          have HB : Hid (badPick m.harts.length script[k] = (decide (script[k].1 < 0) || decide ((m.harts.length : Int) ≤ script[k].1) || decide (script[k].2 < 0) || decide (400 < script[k].2))) := Lib.hid rfl
          have hok2 : Hid (badPick m.harts.length script[k] = false → ∀ j (h : j < script.length), j < k + 1 → badPick m.harts.length script[j] = false) := Lib.hid (fun hf j h hj => if e : j = k then by subst e; exact hf else hok.out j h (by omega))
          have W : Hid (badPick m.harts.length script[k] = true → wrong m script = 3) := Lib.hid (fun hf => by
            have : script.any (badPick m.harts.length) = true := List.any_eq_true.2 ⟨script[k], List.getElem_mem hlt, hf⟩
            simp [wrong, c1, c2, c3, hall, c4, this])
          clear hel hok HS hs hp hat
          generalize badPick m.harts.length script[k] = bad at *
          generalize script[k].1 = x at *
          generalize script[k].2 = y at *
          go_wp2
          all_goals first
            | (go_ret
               refine ⟨?_, hb6.trans (by go_grown)⟩
               have hbt : bad = true := by rw [HB.out]; clear HB W; simp [*]; try omega
               have hw := W.out hbt
               first | rfl | (rw [hw]; rfl))
            | (go_roundw
               case rel =>
                have hbt : bad = false := by rw [HB.out]; clear HB W; simp; omega
                exact ⟨k + 1, by go_num, by omega, Lib.hid (hok2.out hbt), _, rfl, hbq.trans (by go_grown)⟩
               case measure => simp [intOf]; omega)
        · have hall2 : script.any (badPick m.harts.length) = false := by
            rw [List.any_eq_false]
            intro h hh
            obtain ⟨j, hj, rfl⟩ := List.getElem_of_mem hh
            simp [hok.out j hj (by omega)]
          have W : wrong m script = 0 := by simp [wrong, c1, c2, c3, hall, c4, hall2]
          clear hok HS hs
          go_wp2
          go_ret
          exact ⟨by first | rfl | (rw [W]; rfl), hb6⟩
end Go.Proofs.Ytlfnddmncbkjaaa.W
