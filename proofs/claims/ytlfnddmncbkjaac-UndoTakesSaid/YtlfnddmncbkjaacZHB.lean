import Derived.Test.YtlfnddmncbkjaacZMA
import Derived.Test.YtlfnddmncbkjaacZGL
set_option linter.unusedVariables false
set_option linter.unusedSimpArgs false
set_option maxRecDepth 100000
set_option maxHeartbeats 4000000
namespace Go.Proofs.Ytlfnddmncbkjaac.W
open Go.RowKit Fb
theorem wrong_any (vm vh vs : Value) (m : Mach) (wf : m.Wf) (script : List (Int × Int)) (w : World) (hm : MachAt w vm vh m) (hs : Picks w vs script) (hp : ∀ p ∈ script, i64ok p.1 ∧ i64ok p.2) :
    Calls Try.prog 12 #[.agg #[vm, vh], vs] w fun e w' => e = .returned (.int .i64 (wrong m script)) ∧ Below w.heap.size w w' := by
  obtain ⟨aom, capm, rfl, hcm, hmm, _, _⟩ := hm.1.open
  obtain ⟨aoh, caph, rfl, hch, hmh, _, hoh⟩ := hm.2.open (fun h hh => hlist_length (wf.harts h hh)) om
  obtain ⟨aos, caps, rfl, hcs, hms, _, hos⟩ := hs.open (fun _ _ => rfl) om
  unfold maxLen at hmm hmh hms
  by_cases c1 : 4096 < m.mem.length
  · have W : wrong m script = 2 := by simp [wrong, c1]
    go_enter Try.func12, Try.ntmps12
    go_wp2
    all_goals go_ret
    all_goals exact ⟨by first | rfl | (rw [W]; rfl), by go_grown⟩
  by_cases c2 : m.harts.length < 1
  · have W : wrong m script = 2 := by simp [wrong, c2]
    go_enter Try.func12, Try.ntmps12
    go_wp2
    all_goals go_ret
    all_goals exact ⟨by first | rfl | (rw [W]; rfl), by go_grown⟩
  by_cases c3 : 4 < m.harts.length
  · have W : wrong m script = 2 := by simp [wrong, c3]
    go_enter Try.func12, Try.ntmps12
    go_wp2
    all_goals go_ret
    all_goals exact ⟨by first | rfl | (rw [W]; rfl), by go_grown⟩
  go_enter Try.func12, Try.ntmps12
  go_wp2_with fail
  have hc0 : (w.alloc (.cells #[.slice aom m.mem.length capm, .slice aoh m.harts.length caph] 25)).cell? ⟨w.heap.size, 1, none⟩ = some (.slice aoh m.harts.length caph) := by go_cell
  have hb0 : Below w.heap.size w (w.alloc (.cells #[.slice aom m.mem.length capm, .slice aoh m.harts.length caph] 25)) := by go_grown
  have hs0 : (w.alloc (.cells #[.slice aom m.mem.length capm, .slice aoh m.harts.length caph] 25)).heap.size = w.heap.size + 1 := by simp
  generalize w.alloc (.cells #[.slice aom m.mem.length capm, .slice aoh m.harts.length caph] 25) = w1 at *
  have HO := lI hoh
  have HS := lI hos
  clear hoh hos
  go_loopw [5] (fun i wr => ∃ k : Nat, i = .int .i64 k ∧ k ≤ m.harts.length ∧ Hid (∀ j (h : j < m.harts.length), j < k → m.harts[j].ok = true) ∧ ∃ w2, wr = w2 ∧ Below w1.heap.size w1 w2) (fun i _ => m.harts.length - (intOf i).toNat)
  case atStart => exact ⟨0, rfl, om, lI (by intro j h hj; omega), _, rfl, Below.refl _ _⟩
  case round =>
    obtain ⟨k, rfl, hk, hok, w2, hw2, hbr⟩ := hrel
    subst hw2
    have hb2 := hb0.trans (hbr.mono om)
    have hcw := (hbr.cell (p := ⟨w.heap.size, 1, none⟩) zI).trans hc0
    clear hc0
    by_cases hlt : k < m.harts.length
    · obtain ⟨b, off, rfl, hbl, hel⟩ := HO.out zO
      have hat : At wr b (off + k * 37) (hlist m.harts[k]) := (hel k hlt).below hb2
      clear hel
      have wfk : m.harts[k].Wf := wf.harts _ (List.getElem_mem hlt)
      have hsz : (Try.prog.info? 67).map (·.size) = some (hcells m.harts[k]).size := by rw [hcells_size wfk]; kernel_rfl
      go_wp2_with (refine wpList_load_at rfl 67 _ rfl b (off + k * 37) rfl (hcells m.harts[k]) _ hat Try.underlying67 rfl hsz ?_)
      refine (may4_any m.harts[k] wfk _).mono ?_
      rintro e w3 ⟨rfl, hb3⟩
      have hb4 : Below w1.heap.size w1 w3 := hbr.trans (hb3.mono (by have := hbr.size; omega))
      cases hko : m.harts[k].ok with
      | false =>
        have W : wrong m script = 2 := by
          have : m.harts.any (fun h => !h.ok) = true := List.any_eq_true.2 ⟨m.harts[k], List.getElem_mem hlt, by simp [hko]⟩
          simp [wrong, c1, c2, c3, this]
        clear hok HO HS hat hsz hm hs
        go_wp2
        go_ret
        exact ⟨by first | rfl | (rw [W]; rfl), hb0.trans (hb4.mono om)⟩
      | true =>
        have hok2 : Hid (∀ j (h : j < m.harts.length), j < k + 1 → m.harts[j].ok = true) := lI (fun j h hj => if e : j = k then by subst e; exact hko else hok.out j h om)
        clear hok HO HS hat hsz hm hs
        go_wp2
        go_roundw
        case rel => exact ⟨k + 1, by go_num, om, hok2, _, rfl, hb4⟩
        case measure => simp [intOf]; omega
    · have hall : m.harts.any (fun h => !h.ok) = false := by
        rw [List.any_eq_false]
        intro h hh
        obtain ⟨j, hj, rfl⟩ := List.getElem_of_mem hh
        simp [hok.out j hj om]
      have hkn : k = m.harts.length := om
      subst hkn
      have hsz5 := hbr.size
      have hb5 := hb2
      clear hok HO hm hb2
      by_cases c4 : 300 < script.length
      · have W : wrong m script = 1 := by simp [wrong, c1, c2, c3, hall, c4]
        clear HS hs
        go_wp2
        go_ret
        exact ⟨by first | rfl | (rw [W]; rfl), hb5⟩
      go_wp2_with fail
      obtain ⟨wo, rfl⟩ : ∃ wo : World, wo = wr := ⟨_, rfl⟩
      have hlt5 : w.heap.size < wo.heap.size := om
      go_loopw [6] (fun i wx => ∃ k : Nat, i = .int .i64 k ∧ k ≤ script.length ∧ Hid (∀ j (h : j < script.length), j < k → badPick m.harts.length script[j] = false) ∧ ∃ w2, wx = w2 ∧ Below wo.heap.size wo w2) (fun i _ => script.length - (intOf i).toNat)
      case atStart => exact ⟨0, rfl, om, lI (by intro j h hj; omega), _, rfl, Below.refl _ _⟩
      case round =>
        obtain ⟨k, rfl, hk, hok, wq, hwq, hbq⟩ := hrel
        subst hwq
        have hcq := (hbq.cell (p := ⟨w.heap.size, 1, none⟩) hlt5).trans hcw
        have hb6 := hb5.trans (hbq.mono hb5.size)
        have hsz6 : wo.heap.size ≤ wr.heap.size := hbq.size
        have hlt6 : w.heap.size < wr.heap.size := om
        clear hcw
        by_cases hlt : k < script.length
        · obtain ⟨b, off, rfl, hbl, hel⟩ := HS.out zO
          have hat := (hel k hlt).below hb6
          have d0 := hat.get (j := 0) (v := .int .i64 script[k].1) rfl
          have d1 := hat.get (j := 1) (v := .int .i64 script[k].2) rfl
          simp only [Nat.add_zero] at d0
          obtain ⟨⟨q1, q2⟩, q3, q4⟩ := hp _ (List.getElem_mem hlt)
          have HB : Hid (badPick m.harts.length script[k] = (decide (script[k].1 < 0) || decide ((m.harts.length : Int) ≤ script[k].1) || decide (script[k].2 < 0) || decide (400 < script[k].2))) := lI rfl
          have hok2 : Hid (badPick m.harts.length script[k] = false → ∀ j (h : j < script.length), j < k + 1 → badPick m.harts.length script[j] = false) := lI (fun hf j h hj => if e : j = k then by subst e; exact hf else hok.out j h om)
          have W : Hid (badPick m.harts.length script[k] = true → wrong m script = 3) := lI (fun hf => by
            have : script.any (badPick m.harts.length) = true := List.any_eq_true.2 ⟨script[k], List.getElem_mem hlt, hf⟩
            simp [wrong, c1, c2, c3, hall, c4, this])
          clear hel hok HS hs hp hat
          generalize badPick m.harts.length script[k] = bad at *
          generalize script[k].1 = x at *
          generalize script[k].2 = y at *
          by_cases e0 : x < 0
          · have hw := W.out (by rw [HB.out]; simp [*])
            clear HB W hok2
            have g0 : decide (x < 0) = true := decide_eq_true e0
            go_wp2
            go_quiet (fail)
            go_wp2
            go_ret
            exact ⟨by first | rfl | (rw [hw]; rfl), below_drewN hb6 _⟩
          by_cases e1 : (m.harts.length : Int) ≤ x
          · have hw := W.out (by rw [HB.out]; simp [*])
            clear HB W hok2
            have g0 : decide (x < 0) = false := decide_eq_false e0
            have g1 : decide ((m.harts.length : Int) ≤ x) = true := decide_eq_true e1
            go_wp2
            go_quiet (fail)
            go_wp2
            go_ret
            exact ⟨by first | rfl | (rw [hw]; rfl), below_drewN hb6 _⟩
          by_cases e2 : y < 0
          · have hw := W.out (by rw [HB.out]; simp [*])
            clear HB W hok2
            have g0 : decide (x < 0) = false := decide_eq_false e0
            have g1 : decide ((m.harts.length : Int) ≤ x) = false := decide_eq_false e1
            have g2 : decide (y < 0) = true := decide_eq_true e2
            go_wp2
            go_quiet (fail)
            go_wp2
            go_ret
            exact ⟨by first | rfl | (rw [hw]; rfl), below_drewN hb6 _⟩
          by_cases e3 : 400 < y
          · have hw := W.out (by rw [HB.out]; simp [*])
            clear HB W hok2
            have g0 : decide (x < 0) = false := decide_eq_false e0
            have g1 : decide ((m.harts.length : Int) ≤ x) = false := decide_eq_false e1
            have g2 : decide (y < 0) = false := decide_eq_false e2
            have g3 : decide (400 < y) = true := decide_eq_true e3
            go_wp2
            go_quiet (fail)
            go_wp2
            go_ret
            exact ⟨by first | rfl | (rw [hw]; rfl), below_drewN hb6 _⟩
          have hbt := hok2.out (by rw [HB.out]; simp [*])
          have hbt2 := lI hbt
          clear HB W hok2 hbt
          have g0 : decide (x < 0) = false := decide_eq_false e0
          have g1 : decide ((m.harts.length : Int) ≤ x) = false := decide_eq_false e1
          have g2 : decide (y < 0) = false := decide_eq_false e2
          have g3 : decide (400 < y) = false := decide_eq_false e3
          go_wp2
          go_quiet (fail)
          go_wp2
          go_roundw
          case rel => exact ⟨k + 1, by go_num, om, hbt2, _, rfl, below_drewN hbq _⟩
          case measure => simp [intOf]; omega
        · have hall2 : script.any (badPick m.harts.length) = false := by
            rw [List.any_eq_false]
            intro h hh
            obtain ⟨j, hj, rfl⟩ := List.getElem_of_mem hh
            simp [hok.out j hj om]
          have W : wrong m script = 0 := by simp [wrong, c1, c2, c3, hall, c4, hall2]
          clear hok HS hs
          go_wp2
          go_ret
          exact ⟨by first | rfl | (rw [W]; rfl), hb6⟩
theorem work_any (vs : Value) (l : List (Int × Int)) (w : World) (hs : Picks w vs l) :
    Calls Try.prog 13 #[vs] w fun e w' => (∃ n : Nat, e = .returned (.int .i64 n)) ∧ w' = w := by
  obtain ⟨aos, caps, rfl, hcs, hms, -, hos⟩ := hs.open (fun _ _ => rfl) om
  unfold maxLen at hms
  have HOS := lI hos
  clear hos hs
  go_enter Try.func13, Try.ntmps13
  go_wp2_with fail
  go_loopw [3, 4] (fun x i wr => ∃ n k : Nat, x = .int .i64 n ∧ i = .int .i64 k ∧ n ≤ 6001 ∧ k ≤ l.length ∧ wr = w) (fun _ i _ => l.length - (intOf i).toNat)
  case atStart => exact ⟨0, 0, rfl, rfl, om, om, rfl⟩
  case round =>
    obtain ⟨n, k, rfl, rfl, hn, hk, rfl⟩ := hrel
    by_cases hlt : k < l.length
    · obtain ⟨b, off, rfl, hbl, hel⟩ := HOS.out zO
      have d1 := (hel k hlt).get (j := 1) (v := .int .i64 l[k].2) rfl
      clear hel
      generalize l[k].2 = y at *
      by_cases h3 : n ≤ 3000
      · by_cases hy : 0 < y
        · by_cases hy2 : y ≤ 3001
          · obtain ⟨t, rfl⟩ := Int.eq_ofNat_of_zero_le (Int.le_of_lt hy)
            have h4 : t ≤ 3001 := om
            have h5 : 0 < t := om
            have hmin : min (t : Int) 3001 = (t : Int) := om
            go_wp2_with fail
            exact ⟨⟨n + t, k + 1, by simp, by simp, om, om, trivial⟩, by simp [intOf]; omega⟩
          · have hmin : min y 3001 = 3001 := om
            go_wp2_with fail
            exact ⟨⟨n + 3001, k + 1, by simp, by simp, om, om, trivial⟩, by simp [intOf]; omega⟩
        · go_wp2_with fail
          exact ⟨⟨n, k + 1, by simp, by simp, om, om, trivial⟩, by simp [intOf]; omega⟩
      · go_wp2_with fail
        go_ret
        exact ⟨⟨n, rfl⟩, rfl⟩
    · obtain rfl : k = l.length := om
      go_wp2_with fail
      go_ret
      exact ⟨⟨n, rfl⟩, rfl⟩
theorem bytes4_any (v v' : Value) (l l' : List Int) (w : World) (hv : Ints .u8 w v l) (hv' : Ints .u8 w v' l') (hb : Bytes l) (hb' : Bytes l') :
    Calls Try.prog 30 #[v, v'] w fun e w' => e = .returned (.bool (decide (l = l'))) ∧ w = w' := by
  have h1 := conv_any (P := Try.prog) w v l 22 5 9 Try.underlying22 Try.underlying5 Try.underlying9 hv
  have h2 := conv_any (P := Try.prog) w v' l' 22 5 9 Try.underlying22 Try.underlying5 Try.underlying9 hv'
  clear hv hv'
  go_enter Try.func30, Try.ntmps30
  go_wp2
  go_ret
  refine ⟨ret_bool ?_, rfl⟩
  by_cases e : l = l'
  · subst e; simp
  · rw [decide_eq_false e]
    refine beq_eq_false_iff_ne.2 fun h => e (strOf_inj hb hb' ?_)
    rw [ByteArray.toList_eq, ByteArray.toList_eq] at h
    exact ByteArray.ext (Array.toList_inj.mp h)
theorem hart_lits (h : Hart) (wf : h.Wf) : ∃ la, Try.prog.keyLits 3 67 (hcells h).toList = some la := by
  have h1 := keyLits_arr (P := Try.prog) (d := 0) Try.underlying65 Try.underlying58 kr kr h.regs wf.len (fun x hx => wf_of_u32 (wf.regs x hx))
  have c1 : Try.prog.cellsOf 65 = 32 := by kernel_rfl
  have c2 : Try.prog.cellsOf 58 = 1 := by kernel_rfl
  have c3 : Try.prog.cellsOf 4 = 1 := by kernel_rfl
  have c4 : Try.prog.cellsOf 3 = 1 := by kernel_rfl
  have c5 : Try.prog.cellsOf 67 = 37 := by kernel_rfl
  have t1 : (hlist h).take 32 = h.regs.map (Value.int .u32) := by simp [hlist, wf.len]
  have t2 : ((hlist h).drop 32) = [.int .u32 h.pc, .bool h.held, .int .u32 h.heldAt, .int .i64 h.state, .int .i64 h.cause] := by simp [hlist, wf.len]
  have d3 : ((hlist h).drop 33) = [.bool h.held, .int .u32 h.heldAt, .int .i64 h.state, .int .i64 h.cause] := by rw [show 33 = 32 + 1 from rfl, ← List.drop_drop, t2]; rfl
  have d4 : ((hlist h).drop 34) = [.int .u32 h.heldAt, .int .i64 h.state, .int .i64 h.cause] := by rw [show 34 = 32 + 2 from rfl, ← List.drop_drop, t2]; rfl
  have d5 : ((hlist h).drop 35) = [.int .i64 h.state, .int .i64 h.cause] := by rw [show 35 = 32 + 3 from rfl, ← List.drop_drop, t2]; rfl
  have d6 : ((hlist h).drop 36) = [.int .i64 h.cause] := by rw [show 36 = 32 + 4 from rfl, ← List.drop_drop, t2]; rfl
  have w1 := wf_of_u32 wf.pc
  have w2 := wf_of_u32 wf.heldAt
  have w3 := wf_of_i64 wf.state
  have w4 := wf_of_i64 wf.cause
  unfold Program.keyLits
  rw [Try.underlying67]
  simp only [hcells_toList, hlist_length wf, c5, true_and]
  rw [if_pos zH]
  simp only [List.mapM_cons, List.mapM_nil, c1, c2, c3, c4, List.drop_zero, t1, t2, d3, d4, d5, d6, h1]
  simp [Program.keyLits, Try.underlying58, Try.underlying4, Try.underlying3, w1, w2, w3, w4]
theorem hart_neq (h : Hart) (wf : h.Wf) (w : World) : (binOp .neq 67 (.agg (hcells h)) (.agg (hcells h))).run Try.prog w = .ok (.bool false) w := by
  obtain ⟨la, hl⟩ := hart_lits h wf
  exact neq_same w (m := 3) om kr (by unfold Value.formed; rw [Try.underlying67]; simp only [hcells_size wf]; kernel_rfl) hl
theorem words4_same (v v' : Value) (l : List Int) (w : World) (hv : Ints .u32 w v l) (hv' : Ints .u32 w v' l) :
    Calls Try.prog 31 #[v, v'] w fun e w' => e = .returned (.bool true) ∧ Below w.heap.size w w' := by
  obtain ⟨ao, cap, rfl, hc, hm, _, ho⟩ := hv.open
  obtain ⟨ao', cap', rfl, hc', hm', _, ho'⟩ := hv'.open
  unfold maxLen at hm hm'
  have HO := lI ho
  have HO' := lI ho'
  clear ho ho' hv hv'
  go_enter Try.func31, Try.ntmps31
  go_wp2
  go_loopw [5] (fun i wr => ∃ k : Nat, i = .int .i64 k ∧ k ≤ l.length ∧ ∃ n, wr = w.drewN n) (fun i _ => l.length - (intOf i).toNat)
  case atStart => exact ⟨0, rfl, om, 0, rfl⟩
  case round =>
    obtain ⟨k, rfl, hk, n, rfl⟩ := hrel
    by_cases hlt : k < l.length
    · obtain ⟨b, off, rfl, _, hcell⟩ := HO.out zO
      obtain ⟨b', off', rfl, _, hcell'⟩ := HO'.out zO
      have c1 := hcell k hlt
      have c2 := hcell' k hlt
      have i1 : (0 : Int) ≤ (k : Int) := om
      have i2 : (k : Int) < (l.length : Int) := om
      clear hcell hcell'
      generalize l.getD k 0 = x at *
      go_wp2
      go_quiet (fail)
      go_wp2
      go_roundw
      case rel => exact ⟨k + 1, by go_num, om, _, rfl⟩
      case measure => simp [intOf]; omega
    · go_wp2
      go_ret
      exact ⟨rfl, below_drewN br _⟩
theorem same5 (vm vh vo vm' vh' vo' : Value) (m : Mach) (out : List Int) (n : Int) (w : World) (wf : m.Wf) (hm : MachAt w vm vh m) (hm' : MachAt w vm' vh' m) (ho : Ints .u32 w vo out) (ho' : Ints .u32 w vo' out) :
    Calls Try.prog 11 #[.agg #[vm, vh, vo, .int .i64 n], .agg #[vm', vh', vo', .int .i64 n]] w fun e w' => e = .returned (.bool true) ∧ Below w.heap.size w w' := by
  obtain ⟨aoh, caph, rfl, hch, hmh, _, hoh⟩ := hm.2.open (fun h hh => hlist_length (wf.harts h hh)) om
  obtain ⟨aoh', caph', rfl, hch', hmh', _, hoh'⟩ := hm'.2.open (fun h hh => hlist_length (wf.harts h hh)) om
  unfold maxLen at hmh hmh'
  have HO := lI hoh
  have HO' := lI hoh'
  have HM := lI hm
  have HM' := lI hm'
  have HU := lI ho
  have HU' := lI ho'
  clear hm hm' ho ho' hoh hoh'
  go_enter Try.func11, Try.ntmps11
  go_wp2_with fail
  have hb0 : Below w.heap.size w ((w.alloc (.cells #[vm, .slice aoh m.harts.length caph, vo, .int .i64 n] 29)).alloc (.cells #[vm', .slice aoh' m.harts.length caph', vo', .int .i64 n] 29)) := by go_grown
  refine (bytes4_any _ _ m.mem m.mem _ (HM.out.1.below hb0) (HM'.out.1.below hb0) wf.mem wf.mem).mono ?_
  rintro e w1 ⟨rfl, rfl⟩
  rw [decide_eq_true rfl]
  go_wp2_with fail
  refine (words4_same _ _ out _ (HU.out.below hb0) (HU'.out.below hb0)).mono ?_
  rintro e w2 ⟨rfl, hb2⟩
  have hs0 : ((w.alloc (.cells #[vm, .slice aoh m.harts.length caph, vo, .int .i64 n] 29)).alloc (.cells #[vm', .slice aoh' m.harts.length caph', vo', .int .i64 n] 29)).heap.size = w.heap.size + 2 := by simp
  have c1 := (hb2.cell (p := ⟨w.heap.size, 1, none⟩) (by rw [hs0]; show w.heap.size < _; omega)).trans (show _ = some (.slice aoh m.harts.length caph) by go_cell)
  have c1' := (hb2.cell (p := ⟨w.heap.size + 1, 1, none⟩) (by rw [hs0]; show w.heap.size + 1 < _; omega)).trans (show _ = some (.slice aoh' m.harts.length caph') by go_cell)
  have c3 := (hb2.cell (p := ⟨w.heap.size, 3, none⟩) (by rw [hs0]; show w.heap.size < _; omega)).trans (show _ = some (.int .i64 n) by go_cell)
  have c3' := (hb2.cell (p := ⟨w.heap.size + 1, 3, none⟩) (by rw [hs0]; show w.heap.size + 1 < _; omega)).trans (show _ = some (.int .i64 n) by go_cell)
  have hb3 := hb0.trans (hb2.mono (by rw [hs0]; omega))
  clear hb2 hs0 hb0
  go_wp2_with fail
  go_loopw [5] (fun i wr => ∃ k : Nat, i = .int .i64 k ∧ k ≤ m.harts.length ∧ ∃ nd, wr = w2.drewN nd) (fun i _ => m.harts.length - (intOf i).toNat)
  case atStart => exact ⟨0, rfl, om, 0, rfl⟩
  case round =>
    obtain ⟨k, rfl, hk, nd, rfl⟩ := hrel
    by_cases hlt : k < m.harts.length
    · obtain ⟨b, off, rfl, hbl, hel⟩ := HO.out zO
      obtain ⟨b', off', rfl, hbl', hel'⟩ := HO'.out zO
      have hat : At w2 b (off + k * 37) (hlist m.harts[k]) := (hel k hlt).below hb3
      have hat' : At w2 b' (off' + k * 37) (hlist m.harts[k]) := (hel' k hlt).below hb3
      have wfk : m.harts[k].Wf := wf.harts _ (List.getElem_mem hlt)
      generalize m.harts[k] = h at *
      have hsz : (Try.prog.info? 67).map (·.size) = some (hcells h).size := by rw [hcells_size wfk]; kernel_rfl
      have i1 : (0 : Int) ≤ (k : Int) := om
      have i2 : (k : Int) < (m.harts.length : Int) := om
      clear hel hel' hk
      go_wp2_with fail
      refine wp_region_quiet_lit kr kr ?_
      repeat (first
        | (refine wpQuiet_load_at rfl 67 _ rfl b (off + k * 37) rfl (hcells h) _ (by rintro _ ⟨_, rfl⟩; exact hat) Try.underlying67 rfl hsz ?_)
        | (refine wpQuiet_load_at rfl 67 _ rfl b' (off' + k * 37) rfl (hcells h) _ (by rintro _ ⟨_, rfl⟩; exact hat') Try.underlying67 rfl hsz ?_)
        | (refine wpQuiet_neq rfl 67 _ _ _ rfl (hcells h) (hcells h) rfl rfl kr _ (hart_neq h wfk) ?_)
        | quiet_step (fail))
      refine wpQuiet_nil ?_
      intro _ hw'
      obtain ⟨nq, hw''⟩ := hw'
      subst hw''
      go_wp2
      go_roundw
      case rel => exact ⟨k + 1, by go_num, om, _, rfl⟩
      case measure => simp [intOf]; omega
    · go_wp2
      go_ret
      exact ⟨rfl, below_drewN hb3 _⟩
theorem machines12 (vm vh vm' vh' : Value) (m : Mach) (w : World) (wf : m.Wf) (hm : MachAt w vm vh m) (hm' : MachAt w vm' vh' m) :
    Calls Try.prog 20 #[.agg #[vm, vh], .agg #[vm', vh']] w fun e w' => e = .returned (.bool true) ∧ Below w.heap.size w w' := by
  obtain ⟨aom, capm, rfl, _⟩ := hm.1.open
  obtain ⟨aoh, caph, rfl, _⟩ := hm.2.open (fun h hh => hlist_length (wf.harts h hh)) om
  obtain ⟨aom', capm', rfl, _⟩ := hm'.1.open
  obtain ⟨aoh', caph', rfl, _⟩ := hm'.2.open (fun h hh => hlist_length (wf.harts h hh)) om
  have HM := lI hm
  have HM' := lI hm'
  clear hm hm'
  go_enter Try.func20, Try.ntmps20
  go_wp2_with fail
  refine (same5 _ _ _ _ _ _ m [] 0 _ wf (HM.out.below (by go_grown)) (HM'.out.below (by go_grown)) (Sl.nil _ _) (Sl.nil _ _)).mono ?_
  rintro e w1 ⟨rfl, hb1⟩
  have hb2 : Below w.heap.size w w1 := Below.trans (by go_grown) (hb1.mono zP)
  clear hb1
  go_wp2
  go_ret
  exact ⟨rfl, hb2⟩
end Go.Proofs.Ytlfnddmncbkjaac.W
