import Derived.Test.YtlfnddmncbkjaacZMA
import Derived.Test.YtlfnddmncbkjaacZGL
import Derived.Test.YtlfnddmncbkjaacZGD
set_option linter.unusedVariables false
set_option linter.unusedSimpArgs false
set_option maxRecDepth 100000
set_option maxHeartbeats 4000000
namespace Go.Proofs.Ytlfnddmncbkjaac.W
open Go.RowKit Fb
theorem wrong_any (vm vh vs : Value) (m : Mach) (wf : m.Wf) (script : List (Int × Int)) (w : World) (hm : MachAt w vm vh m) (hs : Picks w vs script) (hp : ∀ p ∈ script, i64ok p.1 ∧ i64ok p.2) :
    Calls Try.prog 12 #[.agg #[vm, vh], vs] w fun e w' => e = .returned (.int .i64 (wrong m script)) ∧ Below w.heap.size w w' := by
  obtain ⟨aom, capm, rfl, hcm, hmm, _, _⟩ := hm.1.open
  obtain ⟨aoh, caph, rfl, hch, hmh, _, hoh⟩ := hm.2.open (fun h hh => hlist_length (wf.harts h hh)) (by omega)
  obtain ⟨aos, caps, rfl, hcs, hms, _, hos⟩ := hs.open (fun _ _ => rfl) (by omega)
  unfold maxLen at hmm hmh hms
  by_cases c1 : 4096 < m.mem.length
  · have W : wrong m script = 2 := by simp [wrong, c1]
    go_enter Try.func12, Try.ntmps12
    go_wp2
    all_goals go_ret
    all_goals exact ⟨by first | rfl | (rw [W]; rfl), by go_grown⟩
  by_cases c2 : m.harts.length < 1
  · have W : wrong m script = 2 := by simp [wrong, c2]
    go_enter Try.func12, Try.ntmps12
    go_wp2
    all_goals go_ret
    all_goals exact ⟨by first | rfl | (rw [W]; rfl), by go_grown⟩
  by_cases c3 : 4 < m.harts.length
  · have W : wrong m script = 2 := by simp [wrong, c3]
    go_enter Try.func12, Try.ntmps12
    go_wp2
    all_goals go_ret
    all_goals exact ⟨by first | rfl | (rw [W]; rfl), by go_grown⟩
  go_enter Try.func12, Try.ntmps12
  go_wp2_with fail
  have hc0 : (w.alloc (.cells #[.slice aom m.mem.length capm, .slice aoh m.harts.length caph] 25)).cell? ⟨w.heap.size, 1, none⟩ = some (.slice aoh m.harts.length caph) := by go_cell
  have hb0 : Below w.heap.size w (w.alloc (.cells #[.slice aom m.mem.length capm, .slice aoh m.harts.length caph] 25)) := by go_grown
  have hs0 : (w.alloc (.cells #[.slice aom m.mem.length capm, .slice aoh m.harts.length caph] 25)).heap.size = w.heap.size + 1 := by simp
  generalize w.alloc (.cells #[.slice aom m.mem.length capm, .slice aoh m.harts.length caph] 25) = w1 at *
  have HO := Lib.hid hoh
  have HS := Lib.hid hos
  clear hoh hos
  go_loopw [5] (fun i wr => ∃ k : Nat, i = .int .i64 k ∧ k ≤ m.harts.length ∧ Hid (∀ j (h : j < m.harts.length), j < k → m.harts[j].ok = true) ∧ ∃ w2, wr = w2 ∧ Below w1.heap.size w1 w2) (fun i _ => m.harts.length - (intOf i).toNat)
  case atStart => exact ⟨0, rfl, by omega, Lib.hid (by intro j h hj; omega), _, rfl, Below.refl _ _⟩
  case round =>
    obtain ⟨k, rfl, hk, hok, w2, hw2, hbr⟩ := hrel
    subst hw2
    have hb2 := hb0.trans (hbr.mono (by omega))
    have hcw := (hbr.cell (p := ⟨w.heap.size, 1, none⟩) (by show w.heap.size < _; omega)).trans hc0
    clear hc0
    by_cases hlt : k < m.harts.length
    · obtain ⟨b, off, rfl, hbl, hel⟩ := HO.out (by intro e; rw [e] at hlt; simp at hlt)
      have hat : At wr b (off + k * 37) (hlist m.harts[k]) := (hel k hlt).below hb2
      clear hel
      have wfk : m.harts[k].Wf := wf.harts _ (List.getElem_mem hlt)
      have hsz : (Try.prog.info? 67).map (·.size) = some (hcells m.harts[k]).size := by rw [hcells_size wfk]; kernel_rfl
      go_wp2_with (refine wpList_load_at rfl 67 _ rfl b (off + k * 37) rfl (hcells m.harts[k]) _ hat Try.underlying67 rfl hsz ?_)
      refine (may4_any m.harts[k] wfk _).mono ?_
      rintro e w3 ⟨rfl, hb3⟩
      have hb4 : Below w1.heap.size w1 w3 := hbr.trans (hb3.mono (by have := hbr.size; omega))
      cases hko : m.harts[k].ok with
      | false =>
        have W : wrong m script = 2 := by
          have : m.harts.any (fun h => !h.ok) = true := List.any_eq_true.2 ⟨m.harts[k], List.getElem_mem hlt, by simp [hko]⟩
          simp [wrong, c1, c2, c3, this]
        clear hok HO HS hat hsz hm hs
        go_wp2
        go_ret
        exact ⟨by first | rfl | (rw [W]; rfl), hb0.trans (hb4.mono (by omega))⟩
      | true =>
        have hok2 : Hid (∀ j (h : j < m.harts.length), j < k + 1 → m.harts[j].ok = true) := Lib.hid (fun j h hj => if e : j = k then by subst e; exact hko else hok.out j h (by omega))
        clear hok HO HS hat hsz hm hs
        go_wp2
        go_roundw
        case rel => exact ⟨k + 1, by go_num, by omega, hok2, _, rfl, hb4⟩
        case measure => simp [intOf]; omega
    · have hall : m.harts.any (fun h => !h.ok) = false := by
        rw [List.any_eq_false]
        intro h hh
        obtain ⟨j, hj, rfl⟩ := List.getElem_of_mem hh
        simp [hok.out j hj (by omega)]
      have hkn : k = m.harts.length := by omega
      subst hkn
      have hsz5 := hbr.size
      have hb5 := hb2
      clear hok HO hm hb2
      by_cases c4 : 300 < script.length
      · have W : wrong m script = 1 := by simp [wrong, c1, c2, c3, hall, c4]
        clear HS hs
        go_wp2
        go_ret
        exact ⟨by first | rfl | (rw [W]; rfl), hb5⟩
      go_wp2_with fail
      obtain ⟨wo, rfl⟩ : ∃ wo : World, wo = wr := ⟨_, rfl⟩
      have hlt5 : w.heap.size < wo.heap.size := by omega
      go_loopw [6] (fun i wx => ∃ k : Nat, i = .int .i64 k ∧ k ≤ script.length ∧ Hid (∀ j (h : j < script.length), j < k → badPick m.harts.length script[j] = false) ∧ ∃ w2, wx = w2 ∧ Below wo.heap.size wo w2) (fun i _ => script.length - (intOf i).toNat)
      case atStart => exact ⟨0, rfl, by omega, Lib.hid (by intro j h hj; omega), _, rfl, Below.refl _ _⟩
      case round =>
        obtain ⟨k, rfl, hk, hok, wq, hwq, hbq⟩ := hrel
        subst hwq
        have hcq := (hbq.cell (p := ⟨w.heap.size, 1, none⟩) hlt5).trans hcw
        have hb6 := hb5.trans (hbq.mono hb5.size)
        have hsz6 : wo.heap.size ≤ wr.heap.size := hbq.size
        have hlt6 : w.heap.size < wr.heap.size := by omega
        clear hcw
        by_cases hlt : k < script.length
        · obtain ⟨b, off, rfl, hbl, hel⟩ := HS.out (by intro e; rw [e] at hlt; simp at hlt)
          have hat := (hel k hlt).below hb6
          have d0 := hat.get (j := 0) (v := .int .i64 script[k].1) rfl
          have d1 := hat.get (j := 1) (v := .int .i64 script[k].2) rfl
          simp only [Nat.add_zero] at d0
          obtain ⟨⟨q1, q2⟩, q3, q4⟩ := hp _ (List.getElem_mem hlt)
          have HB : Hid (badPick m.harts.length script[k] = (decide (script[k].1 < 0) || decide ((m.harts.length : Int) ≤ script[k].1) || decide (script[k].2 < 0) || decide (400 < script[k].2))) := Lib.hid rfl
          have hok2 : Hid (badPick m.harts.length script[k] = false → ∀ j (h : j < script.length), j < k + 1 → badPick m.harts.length script[j] = false) := Lib.hid (fun hf j h hj => if e : j = k then by subst e; exact hf else hok.out j h (by omega))
          have W : Hid (badPick m.harts.length script[k] = true → wrong m script = 3) := Lib.hid (fun hf => by
            have : script.any (badPick m.harts.length) = true := List.any_eq_true.2 ⟨script[k], List.getElem_mem hlt, hf⟩
            simp [wrong, c1, c2, c3, hall, c4, this])
          clear hel hok HS hs hp hat
          generalize badPick m.harts.length script[k] = bad at *
          generalize script[k].1 = x at *
          generalize script[k].2 = y at *
          by_cases e0 : x < 0
          · have hw := W.out (by rw [HB.out]; simp [*])
            clear HB W hok2
            have g0 : decide (x < 0) = true := decide_eq_true e0
            go_wp2
            go_quiet (fail)
            go_wp2
            go_ret
            exact ⟨by first | rfl | (rw [hw]; rfl), below_drewN hb6 _⟩
          by_cases e1 : (m.harts.length : Int) ≤ x
          · have hw := W.out (by rw [HB.out]; simp [*])
            clear HB W hok2
            have g0 : decide (x < 0) = false := decide_eq_false e0
            have g1 : decide ((m.harts.length : Int) ≤ x) = true := decide_eq_true e1
            go_wp2
            go_quiet (fail)
            go_wp2
            go_ret
            exact ⟨by first | rfl | (rw [hw]; rfl), below_drewN hb6 _⟩
          by_cases e2 : y < 0
          · have hw := W.out (by rw [HB.out]; simp [*])
            clear HB W hok2
            have g0 : decide (x < 0) = false := decide_eq_false e0
            have g1 : decide ((m.harts.length : Int) ≤ x) = false := decide_eq_false e1
            have g2 : decide (y < 0) = true := decide_eq_true e2
            go_wp2
            go_quiet (fail)
            go_wp2
            go_ret
            exact ⟨by first | rfl | (rw [hw]; rfl), below_drewN hb6 _⟩
          by_cases e3 : 400 < y
          · have hw := W.out (by rw [HB.out]; simp [*])
            clear HB W hok2
            have g0 : decide (x < 0) = false := decide_eq_false e0
            have g1 : decide ((m.harts.length : Int) ≤ x) = false := decide_eq_false e1
            have g2 : decide (y < 0) = false := decide_eq_false e2
            have g3 : decide (400 < y) = true := decide_eq_true e3
            go_wp2
            go_quiet (fail)
            go_wp2
            go_ret
            exact ⟨by first | rfl | (rw [hw]; rfl), below_drewN hb6 _⟩
          have hbt := hok2.out (by rw [HB.out]; simp [*])
          have hbt2 := Lib.hid hbt
          clear HB W hok2 hbt
          have g0 : decide (x < 0) = false := decide_eq_false e0
          have g1 : decide ((m.harts.length : Int) ≤ x) = false := decide_eq_false e1
          have g2 : decide (y < 0) = false := decide_eq_false e2
          have g3 : decide (400 < y) = false := decide_eq_false e3
          go_wp2
          go_quiet (fail)
          go_wp2
          go_roundw
          case rel => exact ⟨k + 1, by go_num, by omega, hbt2, _, rfl, below_drewN hbq _⟩
          case measure => simp [intOf]; omega
        · have hall2 : script.any (badPick m.harts.length) = false := by
            rw [List.any_eq_false]
            intro h hh
            obtain ⟨j, hj, rfl⟩ := List.getElem_of_mem hh
            simp [hok.out j hj (by omega)]
          have W : wrong m script = 0 := by simp [wrong, c1, c2, c3, hall, c4, hall2]
          clear hok HS hs
          go_wp2
          go_ret
          exact ⟨by first | rfl | (rw [W]; rfl), hb6⟩
end Go.Proofs.Ytlfnddmncbkjaac.W
namespace Go.Proofs.Ytlfnddmncbkjaac.W
open Go.RowKit Fb
theorem work_any (vs : Value) (l : List (Int × Int)) (w : World) (hs : Picks w vs l) :
    Calls Try.prog 13 #[vs] w fun e w' => (∃ n : Nat, e = .returned (.int .i64 n)) ∧ w' = w := by
  obtain ⟨aos, caps, rfl, hcs, hms, -, hos⟩ := hs.open (fun _ _ => rfl) (by omega)
  unfold maxLen at hms
  have HOS := Lib.hid hos
  clear hos hs
  go_enter Try.func13, Try.ntmps13
  go_wp2_with fail
  go_loopw [3, 4] (fun x i wr => ∃ n k : Nat, x = .int .i64 n ∧ i = .int .i64 k ∧ n ≤ 6001 ∧ k ≤ l.length ∧ wr = w) (fun _ i _ => l.length - (intOf i).toNat)
  case atStart => exact ⟨0, 0, rfl, rfl, by omega, by omega, rfl⟩
  case round =>
    obtain ⟨n, k, rfl, rfl, hn, hk, rfl⟩ := hrel
    by_cases hlt : k < l.length
    · obtain ⟨b, off, rfl, hbl, hel⟩ := HOS.out (by intro e; rw [e] at hlt; simp at hlt)
      have d1 := (hel k hlt).get (j := 1) (v := .int .i64 l[k].2) rfl
      clear hel
      generalize l[k].2 = y at *
      by_cases h3 : n ≤ 3000
      · by_cases hy : 0 < y
        · by_cases hy2 : y ≤ 3001
          · obtain ⟨t, rfl⟩ := Int.eq_ofNat_of_zero_le (Int.le_of_lt hy)
            have h4 : t ≤ 3001 := by omega
            have h5 : 0 < t := by omega
            have hmin : min (t : Int) 3001 = (t : Int) := by omega
            go_wp2_with fail
            exact ⟨⟨n + t, k + 1, by simp, by simp, by omega, by omega, trivial⟩, by simp [intOf]; omega⟩
          · have hmin : min y 3001 = 3001 := by omega
            go_wp2_with fail
            exact ⟨⟨n + 3001, k + 1, by simp, by simp, by omega, by omega, trivial⟩, by simp [intOf]; omega⟩
        · go_wp2_with fail
          exact ⟨⟨n, k + 1, by simp, by simp, by omega, by omega, trivial⟩, by simp [intOf]; omega⟩
      · go_wp2_with fail
        go_ret
        exact ⟨⟨n, rfl⟩, rfl⟩
    · obtain rfl : k = l.length := by omega
      go_wp2_with fail
      go_ret
      exact ⟨⟨n, rfl⟩, rfl⟩
end Go.Proofs.Ytlfnddmncbkjaac.W
namespace Go.Proofs.Ytlfnddmncbkjaac.W
open Go.RowKit Fb
theorem bytes4_any (v v' : Value) (l l' : List Int) (w : World) (hv : Ints .u8 w v l) (hv' : Ints .u8 w v' l') (hb : Bytes l) (hb' : Bytes l') :
    Calls Try.prog 30 #[v, v'] w fun e w' => e = .returned (.bool (decide (l = l'))) ∧ w = w' := by
  have h1 := conv_any (P := Try.prog) w v l 22 5 9 Try.underlying22 Try.underlying5 Try.underlying9 hv
  have h2 := conv_any (P := Try.prog) w v' l' 22 5 9 Try.underlying22 Try.underlying5 Try.underlying9 hv'
  clear hv hv'
  go_enter Try.func30, Try.ntmps30
  go_wp2
  go_ret
  refine ⟨ret_bool ?_, rfl⟩
  by_cases e : l = l'
  · subst e; simp
  · rw [decide_eq_false e]
    refine beq_eq_false_iff_ne.2 fun h => e (strOf_inj hb hb' ?_)
    rw [ByteArray.toList_eq, ByteArray.toList_eq] at h
    exact ByteArray.ext (Array.toList_inj.mp h)
end Go.Proofs.Ytlfnddmncbkjaac.W
namespace Go.Proofs.Ytlfnddmncbkjaac.W
open Go.RowKit Fb
theorem hart_lits (h : Hart) (wf : h.Wf) : ∃ la, Try.prog.keyLits 3 67 (hcells h).toList = some la := by
  have h1 := keyLits_arr (P := Try.prog) (d := 0) Try.underlying65 Try.underlying58 (by kernel_rfl) (by kernel_rfl) h.regs wf.len (fun x hx => wf_of_u32 (wf.regs x hx))
  have c1 : Try.prog.cellsOf 65 = 32 := by kernel_rfl
  have c2 : Try.prog.cellsOf 58 = 1 := by kernel_rfl
  have c3 : Try.prog.cellsOf 4 = 1 := by kernel_rfl
  have c4 : Try.prog.cellsOf 3 = 1 := by kernel_rfl
  have c5 : Try.prog.cellsOf 67 = 37 := by kernel_rfl
  have t1 : (hlist h).take 32 = h.regs.map (Value.int .u32) := by simp [hlist, wf.len]
  have t2 : ((hlist h).drop 32) = [.int .u32 h.pc, .bool h.held, .int .u32 h.heldAt, .int .i64 h.state, .int .i64 h.cause] := by simp [hlist, wf.len]
  have d3 : ((hlist h).drop 33) = [.bool h.held, .int .u32 h.heldAt, .int .i64 h.state, .int .i64 h.cause] := by rw [show 33 = 32 + 1 from rfl, ← List.drop_drop, t2]; rfl
  have d4 : ((hlist h).drop 34) = [.int .u32 h.heldAt, .int .i64 h.state, .int .i64 h.cause] := by rw [show 34 = 32 + 2 from rfl, ← List.drop_drop, t2]; rfl
  have d5 : ((hlist h).drop 35) = [.int .i64 h.state, .int .i64 h.cause] := by rw [show 35 = 32 + 3 from rfl, ← List.drop_drop, t2]; rfl
  have d6 : ((hlist h).drop 36) = [.int .i64 h.cause] := by rw [show 36 = 32 + 4 from rfl, ← List.drop_drop, t2]; rfl
  have w1 := wf_of_u32 wf.pc
  have w2 := wf_of_u32 wf.heldAt
  have w3 := wf_of_i64 wf.state
  have w4 := wf_of_i64 wf.cause
  unfold Program.keyLits
  rw [Try.underlying67]
  simp only [hcells_toList, hlist_length wf, c5, true_and]
  rw [if_pos (by simp)]
  simp only [List.mapM_cons, List.mapM_nil, c1, c2, c3, c4, List.drop_zero, t1, t2, d3, d4, d5, d6, h1]
  simp [Program.keyLits, Try.underlying58, Try.underlying4, Try.underlying3, w1, w2, w3, w4]
theorem hart_neq (h : Hart) (wf : h.Wf) (w : World) : (binOp .neq 67 (.agg (hcells h)) (.agg (hcells h))).run Try.prog w = .ok (.bool false) w := by
  obtain ⟨la, hl⟩ := hart_lits h wf
  exact neq_same w (m := 3) (by omega) (by kernel_rfl) (by unfold Value.formed; rw [Try.underlying67]; simp only [hcells_size wf]; kernel_rfl) hl
theorem words4_same (v v' : Value) (l : List Int) (w : World) (hv : Ints .u32 w v l) (hv' : Ints .u32 w v' l) :
    Calls Try.prog 31 #[v, v'] w fun e w' => e = .returned (.bool true) ∧ Below w.heap.size w w' := by
  obtain ⟨ao, cap, rfl, hc, hm, _, ho⟩ := hv.open
  obtain ⟨ao', cap', rfl, hc', hm', _, ho'⟩ := hv'.open
  unfold maxLen at hm hm'
  have HO := Lib.hid ho
  have HO' := Lib.hid ho'
  clear ho ho' hv hv'
  go_enter Try.func31, Try.ntmps31
  go_wp2
  go_loopw [5] (fun i wr => ∃ k : Nat, i = .int .i64 k ∧ k ≤ l.length ∧ ∃ n, wr = w.drewN n) (fun i _ => l.length - (intOf i).toNat)
  case atStart => exact ⟨0, rfl, by omega, 0, rfl⟩
  case round =>
    obtain ⟨k, rfl, hk, n, rfl⟩ := hrel
    by_cases hlt : k < l.length
    · obtain ⟨b, off, rfl, _, hcell⟩ := HO.out (by intro e; rw [e] at hlt; simp at hlt)
      obtain ⟨b', off', rfl, _, hcell'⟩ := HO'.out (by intro e; rw [e] at hlt; simp at hlt)
      have c1 := hcell k hlt
      have c2 := hcell' k hlt
      have i1 : (0 : Int) ≤ (k : Int) := by omega
      have i2 : (k : Int) < (l.length : Int) := by omega
      clear hcell hcell'
      generalize l.getD k 0 = x at *
      go_wp2
      go_quiet (fail)
      go_wp2
      go_roundw
      case rel => exact ⟨k + 1, by go_num, by omega, _, rfl⟩
      case measure => simp [intOf]; omega
    · go_wp2
      go_ret
      exact ⟨rfl, below_drewN (Below.refl _ _) _⟩
theorem same5 (vm vh vo vm' vh' vo' : Value) (m : Mach) (out : List Int) (n : Int) (w : World) (wf : m.Wf) (hm : MachAt w vm vh m) (hm' : MachAt w vm' vh' m) (ho : Ints .u32 w vo out) (ho' : Ints .u32 w vo' out) :
    Calls Try.prog 11 #[.agg #[vm, vh, vo, .int .i64 n], .agg #[vm', vh', vo', .int .i64 n]] w fun e w' => e = .returned (.bool true) ∧ Below w.heap.size w w' := by
  obtain ⟨aoh, caph, rfl, hch, hmh, _, hoh⟩ := hm.2.open (fun h hh => hlist_length (wf.harts h hh)) (by omega)
  obtain ⟨aoh', caph', rfl, hch', hmh', _, hoh'⟩ := hm'.2.open (fun h hh => hlist_length (wf.harts h hh)) (by omega)
  unfold maxLen at hmh hmh'
  have HO := Lib.hid hoh
  have HO' := Lib.hid hoh'
  have HM := Lib.hid hm
  have HM' := Lib.hid hm'
  have HU := Lib.hid ho
  have HU' := Lib.hid ho'
  clear hm hm' ho ho' hoh hoh'
  go_enter Try.func11, Try.ntmps11
  go_wp2_with fail
  have hb0 : Below w.heap.size w ((w.alloc (.cells #[vm, .slice aoh m.harts.length caph, vo, .int .i64 n] 29)).alloc (.cells #[vm', .slice aoh' m.harts.length caph', vo', .int .i64 n] 29)) := by go_grown
  refine (bytes4_any _ _ m.mem m.mem _ (HM.out.1.below hb0) (HM'.out.1.below hb0) wf.mem wf.mem).mono ?_
  rintro e w1 ⟨rfl, rfl⟩
  rw [decide_eq_true rfl]
  go_wp2_with fail
  refine (words4_same _ _ out _ (HU.out.below hb0) (HU'.out.below hb0)).mono ?_
  rintro e w2 ⟨rfl, hb2⟩
  have hs0 : ((w.alloc (.cells #[vm, .slice aoh m.harts.length caph, vo, .int .i64 n] 29)).alloc (.cells #[vm', .slice aoh' m.harts.length caph', vo', .int .i64 n] 29)).heap.size = w.heap.size + 2 := by simp
  have c1 := (hb2.cell (p := ⟨w.heap.size, 1, none⟩) (by rw [hs0]; show w.heap.size < _; omega)).trans (show _ = some (.slice aoh m.harts.length caph) by go_cell)
  have c1' := (hb2.cell (p := ⟨w.heap.size + 1, 1, none⟩) (by rw [hs0]; show w.heap.size + 1 < _; omega)).trans (show _ = some (.slice aoh' m.harts.length caph') by go_cell)
  have c3 := (hb2.cell (p := ⟨w.heap.size, 3, none⟩) (by rw [hs0]; show w.heap.size < _; omega)).trans (show _ = some (.int .i64 n) by go_cell)
  have c3' := (hb2.cell (p := ⟨w.heap.size + 1, 3, none⟩) (by rw [hs0]; show w.heap.size + 1 < _; omega)).trans (show _ = some (.int .i64 n) by go_cell)
  have hb3 := hb0.trans (hb2.mono (by rw [hs0]; omega))
  clear hb2 hs0 hb0
  go_wp2_with fail
  go_loopw [5] (fun i wr => ∃ k : Nat, i = .int .i64 k ∧ k ≤ m.harts.length ∧ ∃ nd, wr = w2.drewN nd) (fun i _ => m.harts.length - (intOf i).toNat)
  case atStart => exact ⟨0, rfl, by omega, 0, rfl⟩
  case round =>
    obtain ⟨k, rfl, hk, nd, rfl⟩ := hrel
    by_cases hlt : k < m.harts.length
    · obtain ⟨b, off, rfl, hbl, hel⟩ := HO.out (by intro e; rw [e] at hlt; simp at hlt)
      obtain ⟨b', off', rfl, hbl', hel'⟩ := HO'.out (by intro e; rw [e] at hlt; simp at hlt)
      have hat : At w2 b (off + k * 37) (hlist m.harts[k]) := (hel k hlt).below hb3
      have hat' : At w2 b' (off' + k * 37) (hlist m.harts[k]) := (hel' k hlt).below hb3
      have wfk : m.harts[k].Wf := wf.harts _ (List.getElem_mem hlt)
      generalize m.harts[k] = h at *
      have hsz : (Try.prog.info? 67).map (·.size) = some (hcells h).size := by rw [hcells_size wfk]; kernel_rfl
      have i1 : (0 : Int) ≤ (k : Int) := by omega
      have i2 : (k : Int) < (m.harts.length : Int) := by omega
      clear hel hel' hk
      go_wp2_with fail
      refine wp_region_quiet_lit (by kernel_rfl) (by kernel_rfl) ?_
      repeat (first
        | (refine wpQuiet_load_at rfl 67 _ rfl b (off + k * 37) rfl (hcells h) _ (by rintro _ ⟨_, rfl⟩; exact hat) Try.underlying67 rfl hsz ?_)
        | (refine wpQuiet_load_at rfl 67 _ rfl b' (off' + k * 37) rfl (hcells h) _ (by rintro _ ⟨_, rfl⟩; exact hat') Try.underlying67 rfl hsz ?_)
        | (refine wpQuiet_neq rfl 67 _ _ _ rfl (hcells h) (hcells h) rfl rfl (by kernel_rfl) _ (hart_neq h wfk) ?_)
        | quiet_step (fail))
      refine wpQuiet_nil ?_
      intro _ hw'
      obtain ⟨nq, hw''⟩ := hw'
      subst hw''
      go_wp2
      go_roundw
      case rel => exact ⟨k + 1, by go_num, by omega, _, rfl⟩
      case measure => simp [intOf]; omega
    · go_wp2
      go_ret
      exact ⟨rfl, below_drewN hb3 _⟩
end Go.Proofs.Ytlfnddmncbkjaac.W
namespace Go.Proofs.Ytlfnddmncbkjaac.W
open Go.RowKit Fb
theorem wpList_neq_g {P : Program} {ops : Array Oper} {rest : List Oper} {o : Oper} {a : Act} {w : World} {Q : Exit → Act → World → Prop} (hgd : Region.wanted o (yielded ops a.tmps) = true) (ty ty2 : TypeId) (x y : Operand) (ho : o.op = .binOp .neq ty x y ty2) (xs ys : Array Value) (hx : a.eval x = .agg xs) (hy : a.eval y = .agg ys)
    (hm : P.eqGuardType P.depth ty = false) (v : Value) (hr : ∀ w, (binOp .neq ty (.agg xs) (.agg ys)).run P w = .ok v w) (h : wpList P ops Q rest (a.put o.dst v) w) : wpList P ops Q (o :: rest) a w := by
  refine wpList_step fun K hK => ?_
  rw [if_pos hgd]
  unfold Oper.wp execOp
  simp [ho, hx, hy, Sem.run_bind, run_eqGuard_agg w .neq ty x y xs ys hm, hr]
  exact hK _ _ h
theorem lost_neq (p : Int × Int) (w : World) : (binOp .neq 95 (.agg (llist p).toArray) (.agg (llist p).toArray)).run Try.prog w = .ok (.bool false) w := by
  obtain ⟨a, b⟩ := p
  rw [run_neq_struct]
  have h : (Op.equalIn 10000 95 (.agg (llist (a, b)).toArray) (.agg (llist (a, b)).toArray)).run Try.prog w = .ok true w := by
    simp [llist, go_sem]
  rw [h]; rfl
theorem ulist_one {x : UndD} (hb : x.vb.oneCell' = true) (hl : x.vl.oneCell' = true) : ∀ u ∈ ulist x, u.oneCell' = true := by
  unfold ulist
  intro u hu
  simp only [List.mem_cons, List.mem_append, List.not_mem_nil, or_false] at hu
  rcases hu with rfl | hu | rfl | rfl | rfl
  · rfl
  · exact hlist_one x.d.was u (by simpa [hcells] using hu)
  · rfl
  · exact hb
  · exact hl
theorem ulist_at {x : UndD} (wf : x.d.was.regs.length = 32) {w : World} {b o : Nat} (h : At w b o (ulist x)) : w.cell? ⟨b, o, none⟩ = some (.int .i64 x.d.hart) ∧ At w b (o + 1) (hlist x.d.was) ∧ w.cell? ⟨b, o + 38, none⟩ = some (.int .u32 x.d.frm) ∧ w.cell? ⟨b, o + 39, none⟩ = some x.vb ∧ w.cell? ⟨b, o + 40, none⟩ = some x.vl := by
  unfold ulist at h
  have h0 := h.get (j := 0) rfl
  have h1 : At w b (o + 1) (hlist x.d.was ++ [.int .u32 x.d.frm, x.vb, x.vl]) := fun j hj => by
    have := h (j + 1) (by simpa using hj)
    rw [show o + 1 + j = o + (j + 1) by omega, this]; rfl
  have h2 : At w b (o + 38) [.int .u32 x.d.frm, x.vb, x.vl] := by
    have := h1.append_right
    rw [hlist_len wf] at this
    exact this
  exact ⟨h0, h1.append_left, h2.get (j := 0) rfl, h2.get (j := 1) rfl, h2.get (j := 2) rfl⟩
theorem same12_any (B : Nat) (v v' : Value) (us us' : List UndD) (w : World) (h : Up B 93 5 95 w v us) (h' : Up B 93 5 95 w v' us') (he : us.map (·.d) = us'.map (·.d)) (hB : ∀ x ∈ us, Bytes x.d.bytes) (hl : ∀ x ∈ us, x.d.lost.length ≤ 4) (hn : us.length ≤ 200000) :
    Calls Try.prog 17 #[v, v'] w fun e w' => e = .returned (.bool true) ∧ Below w.heap.size w w' := by
  have hlen : us'.length = us.length := by have := congrArg List.length he; simpa using this.symm
  obtain ⟨ao, cap, rfl, hc, hm, _, ho⟩ := Sl.open (owns_sl h.own) (fun x hx => ulist_len (h.wf x hx).len) (by omega)
  obtain ⟨ao', cap', rfl, hc', hm', _, ho'⟩ := Sl.open (owns_sl h'.own) (fun x hx => ulist_len (h'.wf x hx).len) (by omega)
  unfold maxLen at hm hm'
  have HO := Lib.hid ho
  have HO' := Lib.hid ho'
  have HU := Lib.hid h
  have HU' := Lib.hid h'
  have HE := Lib.hid he
  have HBY := Lib.hid hB
  have HL := Lib.hid hl
  have HLEN := Lib.hid hlen
  obtain ⟨n', hn'⟩ : ∃ x, x = us'.length := ⟨_, rfl⟩
  rw [← hn'] at hlen ⊢
  subst hlen
  clear h h' ho ho' he hB hl
  go_enter Try.func17, Try.ntmps17
  go_wp2_with fail
  go_loopw [5] (fun i wr => ∃ k : Nat, i = .int .i64 k ∧ k ≤ us.length ∧ Hid (Below w.heap.size w wr)) (fun i _ => us.length - (intOf i).toNat)
  case atStart => exact ⟨0, rfl, by omega, Lib.hid (Below.refl _ _)⟩
  case round =>
    obtain ⟨k, rfl, hk, HB⟩ := hrel
    by_cases hlt : k < us.length
    · have hlt' : k < us'.length := by omega
      obtain ⟨b, off, rfl, hbl, hel⟩ := HO.out (by intro e; rw [e] at hlt; simp at hlt)
      obtain ⟨b', off', rfl, hbl', hel'⟩ := HO'.out (by intro e; rw [e] at hlt'; simp at hlt')
      have hat : At wr b (off + k * 41) (ulist us[k]).toArray.toList := (hel k hlt).below HB.out
      have hat' : At wr b' (off' + k * 41) (ulist us'[k]).toArray.toList := (hel' k hlt').below HB.out
      have hde : us'[k].d = us[k].d := by
        have h1 : (us.map (·.d))[k]'(by simpa using hlt) = (us'.map (·.d))[k]'(by simpa using hlt') := by simp only [HE.out]
        simpa using h1.symm
      have hw1 := HU.out.wf us[k] (List.getElem_mem hlt)
      have hy1 := HU.out.byt us[k] (List.getElem_mem hlt)
      have hz1 := HU.out.los us[k] (List.getElem_mem hlt)
      have hy2 := HU'.out.byt us'[k] (List.getElem_mem hlt')
      have hz2 := HU'.out.los us'[k] (List.getElem_mem hlt')
      have hB := HBY.out us[k] (List.getElem_mem hlt)
      have hl := HL.out us[k] (List.getElem_mem hlt)
      rw [hde] at hy2 hz2
      obtain ⟨x, hx⟩ : ∃ x, x = us[k] := ⟨_, rfl⟩
      obtain ⟨y, hy⟩ : ∃ x, x = us'[k] := ⟨_, rfl⟩
      rw [← hx] at hat hde hw1 hy1 hz1 hy2 hz2 hB hl
      rw [← hy] at hat' hde hy2 hz2
      have hw2 : y.d.was.Wf := by rw [hde]; exact hw1
      have hx41 : (ulist x).toArray.size = 41 := by rw [List.size_toArray, ulist_len hw1.len]
      have hy41 : (ulist y).toArray.size = 41 := by rw [List.size_toArray, ulist_len hw2.len]
      have hszx : (Try.prog.info? 93).map (·.size) = some (ulist x).toArray.size := by rw [hx41]; kernel_rfl
      have hszy : (Try.prog.info? 93).map (·.size) = some (ulist y).toArray.size := by rw [hy41]; kernel_rfl
      obtain ⟨ab1, cb1, e1⟩ := owns_slice hy1
      obtain ⟨ab2, cb2, e2⟩ := owns_slice hy2
      obtain ⟨al1, cl1, e3⟩ := owns_slice hz1
      obtain ⟨al2, cl2, e4⟩ := owns_slice hz2
      have hox := ulist_one (x := x) (by rw [e1]; rfl) (by rw [e3]; rfl)
      have hoy := ulist_one (x := y) (by rw [e2]; rfl) (by rw [e4]; rfl)
      have i1 : (0 : Int) ≤ (k : Int) := by omega
      have i2 : (k : Int) < (us.length : Int) := by omega
      obtain ⟨z, hz41⟩ : ∃ z : Array Value, z = (Value.int .i64 0 :: (hlist hart0 ++ [.int .u32 0, .slice none 0 0, .slice none 0 0])).toArray := ⟨_, rfl⟩
      have hzz : z.size = 41 := by rw [hz41]; rfl
      obtain ⟨w1, hw1e⟩ : ∃ w1, w1 = wr.alloc (.cells (ulist x).toArray 93) := ⟨_, rfl⟩
      obtain ⟨w2, hw2e⟩ : ∃ w2, w2 = w1.alloc (.cells (ulist y).toArray 93) := ⟨_, rfl⟩
      have hb1 : Below wr.heap.size wr w1 := by rw [hw1e]; exact Below.alloc (Below.refl _ _) (Nat.le_refl _) _
      have hs1 : wr.heap.size + 1 ≤ w1.heap.size ∧ w1.heap.size ≤ wr.heap.size + 1 := by rw [hw1e]; simp
      have hb2 : Below w1.heap.size w1 w2 := by rw [hw2e]; exact Below.alloc (Below.refl _ _) (Nat.le_refl _) _
      have hs2 : w1.heap.size + 1 ≤ w2.heap.size := by rw [hw2e]; simp
      obtain ⟨yb, hyb⟩ : ∃ q, q = w1.heap.size := ⟨_, rfl⟩
      have hux := ulist_at hw1.len (show At w2 wr.heap.size 0 (ulist x) from by
        have : At w1 wr.heap.size 0 (ulist x) := by rw [hw1e]; exact at_alloc wr (ulist x) _ _
        exact this.of_lt hb2 (by omega))
      have huy := ulist_at hw2.len (show At w2 yb 0 (ulist y) from by rw [hyb, hw2e]; exact at_alloc w1 (ulist y) _ _)
      simp only [Nat.zero_add] at hux huy
      obtain ⟨x0, x1, x38, x39, x40⟩ := hux
      obtain ⟨y0, y1, y38, y39, y40⟩ := huy
      rw [hde] at y0 y1 y38
      rw [e1] at x39
      rw [e2] at y39
      rw [e3] at x40
      rw [e4] at y40
      have hat1 : At w1 b' (off' + k * 41) (ulist y).toArray.toList := hat'.of_lt hb1 (Nat.lt_of_lt_of_le hbl' HB.out.size)
      have HB2 : Hid (Below w.heap.size w w2) := Lib.hid ((HB.out.trans (hb1.mono HB.out.size)).trans (hb2.mono (by have := HB.out.size; omega)))
      have HW1 := Lib.hid hw1e
      have HW2 := Lib.hid hw2e
      have hszh : (Try.prog.info? 67).map (·.size) = some (hcells x.d.was).size := by rw [hcells_size hw1]; kernel_rfl
      have hn1 := hart_neq x.d.was hw1
      rw [e1] at hy1
      rw [e2] at hy2
      rw [e3] at hz1
      rw [e4] at hz2
      have HY1 := Lib.hid hy1
      have HY2 := Lib.hid hy2
      have HZ1 := Lib.hid hz1
      have HZ2 := Lib.hid hz2
      have HDE := Lib.hid hde
      have HYB := Lib.hid hyb
      have HSZ : Hid (wr.heap.size < w2.heap.size ∧ yb < w2.heap.size ∧ w.heap.size ≤ w2.heap.size) := Lib.hid (by have := HB.out.size; omega)
      clear hel hel' hx hy hw1e hw2e hb1 hb2 hy1 hy2 hz1 hz2 e1 e2 e3 e4 hde hyb hs1 hs2
      go_upto_region 7 with (first | (refine wpList_load_at rfl 93 _ rfl b (off + k * 41) rfl (ulist x).toArray _ hat Try.underlying93 rfl hszx ?_) | (refine wpList_store_new rfl 93 _ _ rfl wr _ (ulist x).toArray rfl rfl rfl hszx (by rw [hx41]; rfl) hox ?_))
      rw [← HW1.out]
      go_upto_region 8 with (first | (refine wpList_load_at rfl 93 _ rfl b' (off' + k * 41) rfl (ulist y).toArray _ hat1 Try.underlying93 rfl hszy ?_) | (refine wpList_store_new rfl 93 _ _ rfl w1 _ (ulist y).toArray rfl rfl rfl hszy (by rw [hy41]; rfl) hoy ?_))
      rw [← HW2.out, ← HYB.out]
      simp only [Act.put]
      clear hat hat' hat1 hszx hszy hox hoy hx41 hy41 hzz
      go_wp2_with (first | (refine wpList_load_g (by rfl) 67 _ rfl wr.heap.size 1 rfl (hcells x.d.was) _ x1 Try.underlying67 rfl hszh ?_) | (refine wpList_load_g (by rfl) 67 _ rfl yb 1 rfl (hcells x.d.was) _ y1 Try.underlying67 rfl hszh ?_) | (refine wpList_neq_g (by rfl) 67 _ _ _ rfl (hcells x.d.was) (hcells x.d.was) rfl rfl (by kernel_rfl) _ hn1 ?_))
      refine (bytes4_any _ _ x.d.bytes x.d.bytes w2 (Sl.below (owns_sl HY1.out) HB2.out) (Sl.below (owns_sl HY2.out) HB2.out) hB hB).mono ?_
      rintro e w3 ⟨rfl, rfl⟩
      rw [decide_eq_true rfl]
      have HLA : Hid (x.d.lost ≠ [] → ∃ g g' : Nat, al1 = some ⟨g, 0, none⟩ ∧ al2 = some ⟨g', 0, none⟩ ∧ At w2 g 0 (x.d.lost.flatMap llist) ∧ At w2 g' 0 (x.d.lost.flatMap llist)) := Lib.hid (fun hne => by
        have h3 := Sl.below (owns_sl HZ1.out) HB2.out
        have h4 := Sl.below (owns_sl HZ2.out) HB2.out
        have hnf : x.d.lost.flatMap llist ≠ [] := by
          intro e
          have h5 := h3.1
          rw [e] at h5
          have := List.length_pos_iff.2 hne
          simp at h5
          omega
        rcases owns_open HZ1.out with ⟨e, _, e2⟩ | ⟨g, c, e, -⟩
        · exact absurd e2 hnf
        · rcases owns_open HZ2.out with ⟨e', _, e2⟩ | ⟨g', c', e', -⟩
          · exact absurd e2 hnf
          · injection e with e5
            injection e' with e6
            subst e5 e6
            obtain ⟨_, a1, q1, r1, _, _, _, r2⟩ := h3
            obtain ⟨_, a2, q2, r3, _, _, _, r4⟩ := h4
            injection r1 with r5
            injection r3 with r6
            exact ⟨g, g', rfl, rfl, (r2 _ r5.symm hnf).2, (r4 _ r6.symm hnf).2⟩)
      obtain ⟨ll, hll⟩ : ∃ q : Nat, q = x.d.lost.length := ⟨_, rfl⟩
      rw [← hll] at x40 y40 hl
      have HLL := Lib.hid hll
      clear x0 x1 x38 x39 y0 y1 y38 y39 hB hn1 hszh hll
      go_wp2_with fail
      go_loopw [8] (fun i wx => ∃ q : Nat, i = .int .i64 q ∧ q ≤ ll ∧ ∃ nd, wx = w2.drewN nd) (fun i _ => ll - (intOf i).toNat)
      case atStart => exact ⟨0, rfl, by omega, 0, rfl⟩
      case round =>
        obtain ⟨q, rfl, hq, nd, rfl⟩ := hrel
        by_cases hlq : q < ll
        · obtain ⟨g, g', rfl, rfl, a1, a2⟩ := HLA.out (by intro e; have := HLL.out; rw [e] at this; simp at this; omega)
          have hq2 : q < x.d.lost.length := by have := HLL.out; omega
          have c1 := At.elem llist 2 (fun _ _ => rfl) a1 q hq2
          have c2 := At.elem llist 2 (fun _ _ => rfl) a2 q hq2
          rw [Nat.zero_add] at c1 c2
          generalize x.d.lost[q] = p at c1 c2
          have hsz : (Try.prog.info? 95).map (·.size) = some (llist p).toArray.size := by show _ = some 2; kernel_rfl
          have j1 : (0 : Int) ≤ (q : Int) := by omega
          have j2 : (q : Int) < (ll : Int) := by omega
          have hln := lost_neq p
          clear a1 a2 hq2
          go_wp2_with fail
          refine wp_region_quiet_lit (by kernel_rfl) (by kernel_rfl) ?_
          repeat (first
            | (refine wpQuiet_load_at rfl 95 _ rfl g (q * 2) rfl (llist p).toArray _ (by rintro _ ⟨_, rfl⟩; exact c1) Try.underlying95 rfl hsz ?_)
            | (refine wpQuiet_load_at rfl 95 _ rfl g' (q * 2) rfl (llist p).toArray _ (by rintro _ ⟨_, rfl⟩; exact c2) Try.underlying95 rfl hsz ?_)
            | (refine wpQuiet_neq rfl 95 _ _ _ rfl (llist p).toArray (llist p).toArray rfl rfl (by kernel_rfl) _ hln ?_)
            | quiet_step (fail))
          refine wpQuiet_nil ?_
          intro _ hw'
          obtain ⟨nq, hw''⟩ := hw'
          subst hw''
          go_wp2
          go_roundw
          case rel => exact ⟨q + 1, by go_num, by omega, _, rfl⟩
          case measure => simp [intOf]; omega
        · go_wp2_with fail
          go_roundw
          case rel => exact ⟨k + 1, by go_num, by omega, Lib.hid (below_drewN HB2.out _)⟩
          case measure => simp [intOf]; omega
    · go_wp2_with fail
      go_ret
      exact ⟨rfl, HB.out⟩
end Go.Proofs.Ytlfnddmncbkjaac.W
