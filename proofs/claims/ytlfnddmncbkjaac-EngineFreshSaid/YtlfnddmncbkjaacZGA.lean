import Derived.Test.YtlfnddmncbkjaacZMB
import Derived.Test.YtlfnddmncbkjaacZMA
set_option linter.unusedVariables false
set_option linter.unusedSimpArgs false
set_option maxRecDepth 100000
set_option maxHeartbeats 4000000
namespace Go.Proofs.Ytlfnddmncbkjaac.W
open Go.RowKit Fb
theorem cnew_any (room : Int) (w : World) (hr : i64ok room) :
    Calls Try.prog 38 #[.int .i64 room] w fun e w' => e = .returned (.tuple #[.agg #[.int .i64 (if room < 0 ∨ 64 < room then 0 else room), .slice none 0 0, .int .i64 0, .int .i64 0], .int .i64 (if room < 0 ∨ 64 < room then 3 else 0)]) ∧ Below w.heap.size w w' := by
  by_cases h : room < 0 ∨ 64 < room
  · rw [if_pos h, if_pos h]
    rcases h with h | h
    · go_enter Try.func38, Try.ntmps38
      go_wp2_with fail
      exact bodyPost_ret (results_c1t zL _ zL (load_new w _ _ Try.underlying55 rfl kr)) rfl ⟨rfl, Fb.blw⟩
    · have h0 : ¬ room < 0 := om
      go_enter Try.func38, Try.ntmps38
      go_wp2_with fail
      exact bodyPost_ret (results_c1t zL _ zL (load_new w _ _ Try.underlying55 rfl kr)) rfl ⟨rfl, Fb.blw⟩
  · rw [if_neg h, if_neg h]
    have h0 : ¬ room < 0 := om
    have h1 : ¬ 64 < room := om
    clear h
    go_enter Try.func38, Try.ntmps38
    go_wp2_with fail
    exact bodyPost_ret (results_c1t zL _ zL (load_new w _ _ Try.underlying55 rfl kr)) rfl ⟨rfl, Fb.blw⟩
theorem place9_any (v : Value) (l : List BlkD) (pc : Int) (w : World) (hv : Sl w v 2 l.length (l.flatMap blist)) :
    Calls Try.prog 23 #[v, .int .u32 pc] w fun e w' => e = .returned (.int .i64 (placeI l pc)) ∧ w' = w := by
  obtain ⟨ao, cap, rfl, hc, hm, -, ho⟩ := hv.open (fun _ _ => rfl) om
  unfold maxLen at hm
  have HO := lI ho
  obtain ⟨r, hr⟩ : ∃ r, r = placeI l pc := ⟨_, rfl⟩
  rw [← hr]
  have HR := lI hr
  clear ho hv hr
  go_enter Try.func23, Try.ntmps23
  go_wp2_with fail
  go_loopw [5] (fun i wr => ∃ k : Nat, i = .int .i64 k ∧ k ≤ l.length ∧ wr = w ∧ Hid (∀ j (hj : j < l.length), j < k → l[j].pc ≠ pc)) (fun i _ => l.length - (intOf i).toNat)
  case atStart => exact ⟨0, rfl, om, rfl, lI (fun j _ hj => om)⟩
  case round =>
    obtain ⟨k, rfl, hk, rfl, HI⟩ := hrel
    by_cases hlt : k < l.length
    · obtain ⟨b, off, rfl, -, hel⟩ := HO.out zK
      have c0 := (hel k hlt).get (j := 0) (v := .int .u32 l[k].pc) rfl
      simp only [Nat.add_zero] at c0
      have HN : Hid (l[k].pc = pc → r = k) := lI (fun e => HR.out.trans (placeI_at hlt e (fun j hj => HI.out j om hj)))
      have HG : Hid (l[k].pc ≠ pc → ∀ j (hj : j < l.length), j < k + 1 → l[j].pc ≠ pc) := lI (fun e j hj hj2 => by
        by_cases e2 : j = k
        · subst e2; exact e
        · exact HI.out j hj om)
      clear hel
      obtain ⟨x, hx⟩ : ∃ x, x = l[k].pc := ⟨_, rfl⟩
      rw [← hx] at c0 HN HG
      clear hx
      by_cases he : x = pc
      · obtain rfl := HN.out he
        go_wp2_with fail
        go_ret
        exact ⟨rfl, rfl⟩
      · go_wp2_with fail
        exact ⟨⟨k + 1, by simp, om, trivial, lI (HG.out he)⟩, by simp [intOf]; omega⟩
    · obtain rfl : k = l.length := om
      obtain rfl := HR.out.trans (placeI_no (fun j hj => HI.out j hj hj))
      go_wp2_with fail
      go_ret
      exact ⟨rfl, rfl⟩
theorem at1_any (x : BlkD) (p : Int) (pb : Nat) (w : World) (hp : w.cell? ⟨pb, 0, none⟩ = some (.int .u32 p)) (hx : ∀ u ∈ blist x, u.oneCell' = true) :
    Calls Try.prog 123 #[.agg #[.int .u32 x.pc, x.vi], .pointer (some ⟨pb, 0, none⟩)] w fun e w' => e = .returned (.bool (x.pc == p)) ∧ Below w.heap.size w w' := by
  have hl : pb < w.heap.size := lt_of_cell hp
  go_enter Try.func123, Try.ntmps123
  go_wp2_with fail
  go_ret
  exact ⟨rfl, Fb.blw⟩
theorem indexOf_any (v : Value) (l : List BlkD) (p : Int) (pb : Nat) (w : World) (hv : Blks w v l) (hp : w.cell? ⟨pb, 0, none⟩ = some (.int .u32 p)) :
    Calls Try.prog 84 #[v, .func (.func 123) #[] #[.pointer (some ⟨pb, 0, none⟩)]] w fun e w' => e = .returned (.int .i64 (placeI l p)) ∧ Below w.heap.size w w' := by
  obtain ⟨ao, cap, rfl, hc, hm, -, ho⟩ := hv.1.open (fun _ _ => rfl) om
  unfold maxLen at hm
  have HO := lI ho
  have hlp : pb < w.heap.size := lt_of_cell hp
  have HA1 : Hid (∀ (x : BlkD), x ∈ l → ∀ W, Below w.heap.size w W → Calls Try.prog 123 #[.agg #[.int .u32 x.pc, x.vi], .pointer (some ⟨pb, 0, none⟩)] W fun e w' => e = .returned (.bool (x.pc == p)) ∧ Below W.heap.size W w') := lI (fun x hx W hW => at1_any x p pb W ((hW.cell (p := ⟨pb, 0, none⟩) hlp).trans hp) (blist_one (hv.2 x hx)))
  obtain ⟨r, hr⟩ : ∃ r, r = placeI l p := ⟨_, rfl⟩
  rw [← hr]
  have HR := lI hr
  have HONE : Hid (∀ x ∈ l, ∃ n cc ac, x.vi = .slice ac n cc) := lI (fun x hx => by obtain ⟨ac, cc, e, _⟩ := (hv.2 x hx).at_.open (fun _ _ => rfl) om; exact ⟨_, cc, ac, e⟩)
  clear ho hv hr hp
  go_enter Try.func84, Try.ntmps84
  go_wp2_with fail
  go_loopw [8] (fun i wr => ∃ k : Nat, i = .int .i64 k ∧ k ≤ l.length ∧ Hid (Below w.heap.size w wr ∧ ∀ j (hj : j < l.length), j < k → l[j].pc ≠ p)) (fun i _ => l.length - (intOf i).toNat)
  case atStart => exact ⟨0, rfl, om, lI ⟨Below.refl _ _, fun j _ hj => om⟩⟩
  case round =>
    obtain ⟨k, rfl, hk, HI⟩ := hrel
    by_cases hlt : k < l.length
    · obtain ⟨b, off, rfl, hbl, hel⟩ := HO.out zK
      have hat := (hel k hlt).of_lt HI.out.1 hbl
      obtain ⟨nn, cc, ac, hvi⟩ := HONE.out l[k] (List.getElem_mem hlt)
      have c0 := hat.get (j := 0) (v := .int .u32 l[k].pc) rfl
      have c1 := hat.get (j := 1) (v := l[k].vi) rfl
      simp only [Nat.add_zero] at c0
      rw [hvi] at c1
      have HN : Hid (l[k].pc = p → r = k) := lI (fun e => HR.out.trans (placeI_at hlt e (fun j hj => HI.out.2 j om hj)))
      have HG : Hid (l[k].pc ≠ p → ∀ j (hj : j < l.length), j < k + 1 → l[j].pc ≠ p) := lI (fun e j hj hj2 => by
        by_cases e2 : j = k
        · subst e2; exact e
        · exact HI.out.2 j hj om)
      have HC := lI (HA1.out l[k] (List.getElem_mem hlt) wr HI.out.1)
      rw [hvi] at HC
      have HB := lI HI.out.1
      clear hel hat
      obtain ⟨x, hx⟩ : ∃ x, x = l[k].pc := ⟨_, rfl⟩
      rw [← hx] at c0 HN HG HC
      clear hx hvi
      go_wp2_with fail
      refine HC.out.mono ?_
      rintro e w2 ⟨rfl, hb2⟩
      have HB2 := lI (HB.out.trans (hb2.mono HB.out.size))
      clear hb2 c0 c1
      by_cases he : x = p
      · obtain rfl := HN.out he
        have hbq : (x == p) = true := by simpa using he
        rw [hbq]
        go_wp2_with fail
        go_ret
        exact ⟨rfl, HB2.out⟩
      · have hbq : (x == p) = false := by simpa using he
        rw [hbq]
        go_wp2_with fail
        exact ⟨⟨k + 1, by simp, om, lI ⟨HB2.out, HG.out he⟩⟩, by simp [intOf]; omega⟩
    · obtain rfl : k = l.length := om
      obtain rfl := HR.out.trans (placeI_no (fun j hj => HI.out.2 j hj hj))
      go_wp2_with fail
      go_ret
      exact ⟨rfl, HI.out.1⟩
end Go.Proofs.Ytlfnddmncbkjaac.W
namespace Go.Proofs.Ytlfnddmncbkjaac.Fb
open Go.RowKit
def hasB (pc : Int) (n : Nat) (fr tw : Int) : Bool := decide (max pc fr < min (pc + 4 * (n : Int)) tw)
def staleB (fr tw : Int) (x : BlkD) : Bool := hasB x.pc x.ins.length fr tw
def firstI (P : BlkD → Bool) (l : List BlkD) : Int := if l.findIdx P < l.length then (l.findIdx P : Int) else -1
theorem firstI_at {P : BlkD → Bool} {l : List BlkD} {k : Nat} (hk : k < l.length) (h : P l[k] = true) (hn : ∀ j (hj : j < k), P l[j] = false) : firstI P l = k := by
  have e : l.findIdx P = k := by
    refine Nat.le_antisymm ?_ ?_
    · refine Nat.le_of_not_lt (fun hlt => ?_)
      have := List.not_of_lt_findIdx hlt
      simp [h] at this
    · refine Nat.le_of_not_lt (fun hlt => ?_)
      have h2 : l.findIdx P < l.length := om
      have : P l[l.findIdx P] = true := List.findIdx_getElem (w := h2)
      rw [hn _ hlt] at this; cases this
  unfold firstI; rw [e, if_pos hk]
theorem firstI_no {P : BlkD → Bool} {l : List BlkD} (hn : ∀ j (hj : j < l.length), P l[j] = false) : firstI P l = -1 := by
  unfold firstI
  rw [if_neg]
  intro h
  have : P l[l.findIdx P] = true := List.findIdx_getElem (w := h)
  rw [hn _ h] at this; cases this
end Go.Proofs.Ytlfnddmncbkjaac.Fb
namespace Go.Proofs.Ytlfnddmncbkjaac.W
open Go.RowKit Fb
theorem chas_any (x : BlkD) (fr tw : Int) (w : World) (hx : BlkOk w x) (hl : x.ins.length ≤ 3518437208883) (hf : U32 fr) (ht : U32 tw) :
    Calls Try.prog 115 #[.agg #[.int .u32 x.pc, x.vi], .agg #[.int .u32 fr, .int .u32 tw]] w fun e w' => e = .returned (.bool (hasB x.pc x.ins.length fr tw)) ∧ Below w.heap.size w w' := by
  obtain ⟨pc, vi, ins⟩ := x
  have hpc := hx.pc
  obtain ⟨ao, cap, e, -⟩ := hx.at_.open (fun _ _ => rfl) om
  dsimp only at hpc hl e ⊢
  subst e
  obtain ⟨p, rfl⟩ := Int.eq_ofNat_of_zero_le hpc.1
  obtain ⟨f, rfl⟩ := Int.eq_ofNat_of_zero_le hf.1
  obtain ⟨t, rfl⟩ := Int.eq_ofNat_of_zero_le ht.1
  have hp1 : p < 4294967296 := by have := hpc.2; omega
  have hf1 : f < 4294967296 := by have := hf.2; omega
  have ht1 : t < 4294967296 := by have := ht.2; omega
  clear hx hpc hf ht
  generalize ins.length = n at *
  obtain ⟨w1, hw1⟩ : ∃ w1, w1 = (w.alloc (.cells #[.int .u32 p, .slice ao n cap] 61)).alloc (.cells #[.int .u32 f, .int .u32 t] 158) := ⟨_, rfl⟩
  have hb1 : Below w.heap.size w w1 := by rw [hw1]; exact Fb.blw
  have c0 : (w1).cell? ⟨w.heap.size, 0, none⟩ = some (.int .u32 p) := by rw [hw1]; go_cell
  have c1 : (w1).cell? ⟨w.heap.size, 1, none⟩ = some (.slice ao n cap) := by rw [hw1]; go_cell
  have d0 : (w1).cell? ⟨w.heap.size + 1, 0, none⟩ = some (.int .u32 f) := by rw [hw1]; go_cell
  have d1 : (w1).cell? ⟨w.heap.size + 1, 1, none⟩ = some (.int .u32 t) := by rw [hw1]; go_cell
  have HW1 := lI hw1
  have HB1 := lI hb1
  clear hw1 hb1
  obtain ⟨r, hr⟩ : ∃ r, r = hasB (p : Int) n (f : Int) (t : Int) := ⟨_, rfl⟩
  rw [← hr]
  have HR := lI hr
  clear hr
  go_enter Try.func115, Try.ntmps115
  go_upto_region 1 with (fail)
  rw [← HW1.out]
  go_quiet (fail)
  go_wp2_with fail
  all_goals
    go_ret
    refine ⟨?_, below_drewN HB1.out _⟩
    rw [HR.out]
    refine congrArg (fun b => Ending.returned (Value.bool b)) (decide_eq_decide.2 ?_)
    omega
theorem stale1_any (x : BlkD) (fr tw : Int) (pb : Nat) (w : World) (h0 : w.cell? ⟨pb, 0, none⟩ = some (.int .u32 fr)) (h1 : w.cell? ⟨pb, 1, none⟩ = some (.int .u32 tw)) (hx : BlkOk w x) (hl : x.ins.length ≤ 3518437208883) (hf : U32 fr) (ht : U32 tw) :
    Calls Try.prog 133 #[.agg #[.int .u32 x.pc, x.vi], .pointer (some ⟨pb, 0, none⟩)] w fun e w' => e = .returned (.bool (hasB x.pc x.ins.length fr tw)) ∧ Below w.heap.size w w' := by
  have hlp : pb < w.heap.size := lt_of_cell h0
  obtain ⟨ao, cap, hvi, -⟩ := hx.at_.open (fun _ _ => rfl) om
  obtain ⟨w1, hw1⟩ : ∃ w1, w1 = w.alloc (.cells #[.int .u32 x.pc, .slice ao x.ins.length cap] 61) := ⟨_, rfl⟩
  have hb1 : Below w.heap.size w w1 := by rw [hw1]; exact Fb.blw
  have c0 : (w1).cell? ⟨w.heap.size, 0, none⟩ = some (.int .u32 x.pc) := by rw [hw1]; go_cell
  have c1 : (w1).cell? ⟨w.heap.size, 1, none⟩ = some (.slice ao x.ins.length cap) := by rw [hw1]; go_cell
  have g0 := (hb1.cell (p := ⟨pb, 0, none⟩) hlp).trans h0
  have g1 := (hb1.cell (p := ⟨pb, 1, none⟩) hlp).trans h1
  have HH := lI (chas_any x fr tw w1 (hx.below hb1) hl hf ht)
  rw [hvi] at HH ⊢
  have HW1 := lI hw1
  have HB1 := lI hb1
  clear hw1 hb1 hx h0 h1
  go_enter Try.func133, Try.ntmps133
  go_upto_region 1 with (fail)
  rw [← HW1.out]
  go_wp2_with fail
  refine HH.out.mono ?_
  rintro e w2 ⟨rfl, hb2⟩
  have HB2 := lI (HB1.out.trans (hb2.mono HB1.out.size))
  clear hb2
  go_wp2_with fail
  go_ret
  exact ⟨rfl, HB2.out⟩
theorem indexStale_any (v : Value) (l : List BlkD) (fr tw : Int) (pb : Nat) (w : World) (hv : Blks w v l) (h0 : w.cell? ⟨pb, 0, none⟩ = some (.int .u32 fr)) (h1 : w.cell? ⟨pb, 1, none⟩ = some (.int .u32 tw)) (hins : ∀ x ∈ l, x.ins.length ≤ 3518437208883) (hf : U32 fr) (ht : U32 tw) :
    Calls Try.prog 84 #[v, .func (.func 133) #[] #[.pointer (some ⟨pb, 0, none⟩)]] w fun e w' => e = .returned (.int .i64 (firstI (staleB fr tw) l)) ∧ Below w.heap.size w w' := by
  obtain ⟨ao, cap, rfl, hc, hm, -, ho⟩ := hv.1.open (fun _ _ => rfl) om
  unfold maxLen at hm
  have HO := lI ho
  have hlp : pb < w.heap.size := lt_of_cell h0
  have HA1 : Hid (∀ (x : BlkD), x ∈ l → ∀ W, Below w.heap.size w W → Calls Try.prog 133 #[.agg #[.int .u32 x.pc, x.vi], .pointer (some ⟨pb, 0, none⟩)] W fun e w' => e = .returned (.bool (hasB x.pc x.ins.length fr tw)) ∧ Below W.heap.size W w') := lI (fun x hx W hW => stale1_any x fr tw pb W ((hW.cell (p := ⟨pb, 0, none⟩) hlp).trans h0) ((hW.cell (p := ⟨pb, 1, none⟩) hlp).trans h1) ((hv.2 x hx).below hW) (hins x hx) hf ht)
  obtain ⟨r, hr⟩ : ∃ r, r = firstI (staleB fr tw) l := ⟨_, rfl⟩
  rw [← hr]
  have HR := lI hr
  have HONE : Hid (∀ x ∈ l, ∃ cc ac, x.vi = .slice ac x.ins.length cc) := lI (fun x hx => by obtain ⟨ac, cc, e, _⟩ := (hv.2 x hx).at_.open (fun _ _ => rfl) om; exact ⟨cc, ac, e⟩)
  clear ho hv hr h0 h1 hins hf ht
  go_enter Try.func84, Try.ntmps84
  go_wp2_with fail
  go_loopw [8] (fun i wr => ∃ k : Nat, i = .int .i64 k ∧ k ≤ l.length ∧ Hid (Below w.heap.size w wr ∧ ∀ j (hj : j < l.length), j < k → staleB fr tw l[j] = false)) (fun i _ => l.length - (intOf i).toNat)
  case atStart => exact ⟨0, rfl, om, lI ⟨Below.refl _ _, fun j _ hj => om⟩⟩
  case round =>
    obtain ⟨k, rfl, hk, HI⟩ := hrel
    by_cases hlt : k < l.length
    · obtain ⟨b, off, rfl, hbl, hel⟩ := HO.out zK
      have hat := (hel k hlt).of_lt HI.out.1 hbl
      obtain ⟨cc, ac, hvi⟩ := HONE.out l[k] (List.getElem_mem hlt)
      have c0 := hat.get (j := 0) (v := .int .u32 l[k].pc) rfl
      have c1 := hat.get (j := 1) (v := l[k].vi) rfl
      simp only [Nat.add_zero] at c0
      rw [hvi] at c1
      have HN : Hid (staleB fr tw l[k] = true → r = k) := lI (fun e => HR.out.trans (firstI_at hlt e (fun j hj => HI.out.2 j om hj)))
      have HG : Hid (staleB fr tw l[k] = false → ∀ j (hj : j < l.length), j < k + 1 → staleB fr tw l[j] = false) := lI (fun e j hj hj2 => by
        by_cases e2 : j = k
        · subst e2; exact e
        · exact HI.out.2 j hj om)
      have HC := lI (HA1.out l[k] (List.getElem_mem hlt) wr HI.out.1)
      rw [hvi] at HC
      have HB := lI HI.out.1
      clear hel hat
      obtain ⟨s, hs⟩ : ∃ s, s = staleB fr tw l[k] := ⟨_, rfl⟩
      rw [← hs] at HN HG
      have hs2 : hasB l[k].pc l[k].ins.length fr tw = s := hs.symm
      rw [hs2] at HC
      obtain ⟨x, hx⟩ : ∃ x, x = l[k].pc := ⟨_, rfl⟩
      obtain ⟨nn, hnn⟩ : ∃ n, n = l[k].ins.length := ⟨_, rfl⟩
      rw [← hx] at c0 HC
      rw [← hnn] at c1 HC
      clear hx hnn hs hs2 hvi
      go_wp2_with fail
      refine HC.out.mono ?_
      rintro e w2 ⟨rfl, hb2⟩
      have HB2 := lI (HB.out.trans (hb2.mono HB.out.size))
      clear hb2 c0 c1
      cases s with
      | true =>
        obtain rfl := HN.out rfl
        go_wp2_with fail
        go_ret
        exact ⟨rfl, HB2.out⟩
      | false =>
        go_wp2_with fail
        exact ⟨⟨k + 1, by simp, om, lI ⟨HB2.out, HG.out zT⟩⟩, by simp [intOf]; omega⟩
    · obtain rfl : k = l.length := om
      obtain rfl := HR.out.trans (firstI_no (fun j hj => HI.out.2 j hj hj))
      go_wp2_with fail
      go_ret
      exact ⟨rfl, HI.out.1⟩
theorem efind1_any (x : BlkD) (p : Int) (pb : Nat) (w : World) (hp : w.cell? ⟨pb, 0, none⟩ = some (.int .u32 p)) (hx : ∀ u ∈ blist x, u.oneCell' = true) :
    Calls Try.prog 85 #[.agg #[.int .u32 x.pc, x.vi], .pointer (some ⟨pb, 0, none⟩)] w fun e w' => e = .returned (.bool (x.pc == p)) ∧ Below w.heap.size w w' := by
  have hl : pb < w.heap.size := lt_of_cell hp
  go_enter Try.func85, Try.ntmps85
  go_wp2_with fail
  go_ret
  exact ⟨rfl, Fb.blw⟩
theorem eindexOf_any (v : Value) (l : List BlkD) (p : Int) (pb : Nat) (w : World) (hv : Blks w v l) (hp : w.cell? ⟨pb, 0, none⟩ = some (.int .u32 p)) :
    Calls Try.prog 84 #[v, .func (.func 85) #[] #[.pointer (some ⟨pb, 0, none⟩)]] w fun e w' => e = .returned (.int .i64 (placeI l p)) ∧ Below w.heap.size w w' := by
  obtain ⟨ao, cap, rfl, hc, hm, -, ho⟩ := hv.1.open (fun _ _ => rfl) om
  unfold maxLen at hm
  have HO := lI ho
  have hlp : pb < w.heap.size := lt_of_cell hp
  have HA1 : Hid (∀ (x : BlkD), x ∈ l → ∀ W, Below w.heap.size w W → Calls Try.prog 85 #[.agg #[.int .u32 x.pc, x.vi], .pointer (some ⟨pb, 0, none⟩)] W fun e w' => e = .returned (.bool (x.pc == p)) ∧ Below W.heap.size W w') := lI (fun x hx W hW => efind1_any x p pb W ((hW.cell (p := ⟨pb, 0, none⟩) hlp).trans hp) (blist_one (hv.2 x hx)))
  obtain ⟨r, hr⟩ : ∃ r, r = placeI l p := ⟨_, rfl⟩
  rw [← hr]
  have HR := lI hr
  have HONE : Hid (∀ x ∈ l, ∃ n cc ac, x.vi = .slice ac n cc) := lI (fun x hx => by obtain ⟨ac, cc, e, _⟩ := (hv.2 x hx).at_.open (fun _ _ => rfl) om; exact ⟨_, cc, ac, e⟩)
  clear ho hv hr hp
  go_enter Try.func84, Try.ntmps84
  go_wp2_with fail
  go_loopw [8] (fun i wr => ∃ k : Nat, i = .int .i64 k ∧ k ≤ l.length ∧ Hid (Below w.heap.size w wr ∧ ∀ j (hj : j < l.length), j < k → l[j].pc ≠ p)) (fun i _ => l.length - (intOf i).toNat)
  case atStart => exact ⟨0, rfl, om, lI ⟨Below.refl _ _, fun j _ hj => om⟩⟩
  case round =>
    obtain ⟨k, rfl, hk, HI⟩ := hrel
    by_cases hlt : k < l.length
    · obtain ⟨b, off, rfl, hbl, hel⟩ := HO.out zK
      have hat := (hel k hlt).of_lt HI.out.1 hbl
      obtain ⟨nn, cc, ac, hvi⟩ := HONE.out l[k] (List.getElem_mem hlt)
      have c0 := hat.get (j := 0) (v := .int .u32 l[k].pc) rfl
      have c1 := hat.get (j := 1) (v := l[k].vi) rfl
      simp only [Nat.add_zero] at c0
      rw [hvi] at c1
      have HN : Hid (l[k].pc = p → r = k) := lI (fun e => HR.out.trans (placeI_at hlt e (fun j hj => HI.out.2 j om hj)))
      have HG : Hid (l[k].pc ≠ p → ∀ j (hj : j < l.length), j < k + 1 → l[j].pc ≠ p) := lI (fun e j hj hj2 => by
        by_cases e2 : j = k
        · subst e2; exact e
        · exact HI.out.2 j hj om)
      have HC := lI (HA1.out l[k] (List.getElem_mem hlt) wr HI.out.1)
      rw [hvi] at HC
      have HB := lI HI.out.1
      clear hel hat
      obtain ⟨x, hx⟩ : ∃ x, x = l[k].pc := ⟨_, rfl⟩
      rw [← hx] at c0 HN HG HC
      clear hx hvi
      go_wp2_with fail
      refine HC.out.mono ?_
      rintro e w2 ⟨rfl, hb2⟩
      have HB2 := lI (HB.out.trans (hb2.mono HB.out.size))
      clear hb2 c0 c1
      by_cases he : x = p
      · obtain rfl := HN.out he
        have hbq : (x == p) = true := by simpa using he
        rw [hbq]
        go_wp2_with fail
        go_ret
        exact ⟨rfl, HB2.out⟩
      · have hbq : (x == p) = false := by simpa using he
        rw [hbq]
        go_wp2_with fail
        exact ⟨⟨k + 1, by simp, om, lI ⟨HB2.out, HG.out he⟩⟩, by simp [intOf]; omega⟩
    · obtain rfl : k = l.length := om
      obtain rfl := HR.out.trans (placeI_no (fun j hj => HI.out.2 j hj hj))
      go_wp2_with fail
      go_ret
      exact ⟨rfl, HI.out.1⟩
theorem estale1_any (x : BlkD) (fr tw : Int) (pb : Nat) (w : World) (h0 : w.cell? ⟨pb, 0, none⟩ = some (.int .u32 fr)) (h1 : w.cell? ⟨pb, 1, none⟩ = some (.int .u32 tw)) (hx : BlkOk w x) (hl : x.ins.length ≤ 3518437208883) (hf : U32 fr) (ht : U32 tw) :
    Calls Try.prog 114 #[.agg #[.int .u32 x.pc, x.vi], .pointer (some ⟨pb, 0, none⟩)] w fun e w' => e = .returned (.bool (hasB x.pc x.ins.length fr tw)) ∧ Below w.heap.size w w' := by
  have hlp : pb < w.heap.size := lt_of_cell h0
  obtain ⟨ao, cap, hvi, -⟩ := hx.at_.open (fun _ _ => rfl) om
  obtain ⟨w1, hw1⟩ : ∃ w1, w1 = w.alloc (.cells #[.int .u32 x.pc, .slice ao x.ins.length cap] 61) := ⟨_, rfl⟩
  have hb1 : Below w.heap.size w w1 := by rw [hw1]; exact Fb.blw
  have c0 : (w1).cell? ⟨w.heap.size, 0, none⟩ = some (.int .u32 x.pc) := by rw [hw1]; go_cell
  have c1 : (w1).cell? ⟨w.heap.size, 1, none⟩ = some (.slice ao x.ins.length cap) := by rw [hw1]; go_cell
  have g0 := (hb1.cell (p := ⟨pb, 0, none⟩) hlp).trans h0
  have g1 := (hb1.cell (p := ⟨pb, 1, none⟩) hlp).trans h1
  have HH := lI (chas_any x fr tw w1 (hx.below hb1) hl hf ht)
  rw [hvi] at HH ⊢
  have HW1 := lI hw1
  have HB1 := lI hb1
  clear hw1 hb1 hx h0 h1
  go_enter Try.func114, Try.ntmps114
  go_upto_region 1 with (fail)
  rw [← HW1.out]
  go_wp2_with fail
  refine HH.out.mono ?_
  rintro e w2 ⟨rfl, hb2⟩
  have HB2 := lI (HB1.out.trans (hb2.mono HB1.out.size))
  clear hb2
  go_wp2_with fail
  go_ret
  exact ⟨rfl, HB2.out⟩
theorem eindexStale_any (v : Value) (l : List BlkD) (fr tw : Int) (pb : Nat) (w : World) (hv : Blks w v l) (h0 : w.cell? ⟨pb, 0, none⟩ = some (.int .u32 fr)) (h1 : w.cell? ⟨pb, 1, none⟩ = some (.int .u32 tw)) (hins : ∀ x ∈ l, x.ins.length ≤ 3518437208883) (hf : U32 fr) (ht : U32 tw) :
    Calls Try.prog 84 #[v, .func (.func 114) #[] #[.pointer (some ⟨pb, 0, none⟩)]] w fun e w' => e = .returned (.int .i64 (firstI (staleB fr tw) l)) ∧ Below w.heap.size w w' := by
  obtain ⟨ao, cap, rfl, hc, hm, -, ho⟩ := hv.1.open (fun _ _ => rfl) om
  unfold maxLen at hm
  have HO := lI ho
  have hlp : pb < w.heap.size := lt_of_cell h0
  have HA1 : Hid (∀ (x : BlkD), x ∈ l → ∀ W, Below w.heap.size w W → Calls Try.prog 114 #[.agg #[.int .u32 x.pc, x.vi], .pointer (some ⟨pb, 0, none⟩)] W fun e w' => e = .returned (.bool (hasB x.pc x.ins.length fr tw)) ∧ Below W.heap.size W w') := lI (fun x hx W hW => estale1_any x fr tw pb W ((hW.cell (p := ⟨pb, 0, none⟩) hlp).trans h0) ((hW.cell (p := ⟨pb, 1, none⟩) hlp).trans h1) ((hv.2 x hx).below hW) (hins x hx) hf ht)
  obtain ⟨r, hr⟩ : ∃ r, r = firstI (staleB fr tw) l := ⟨_, rfl⟩
  rw [← hr]
  have HR := lI hr
  have HONE : Hid (∀ x ∈ l, ∃ cc ac, x.vi = .slice ac x.ins.length cc) := lI (fun x hx => by obtain ⟨ac, cc, e, _⟩ := (hv.2 x hx).at_.open (fun _ _ => rfl) om; exact ⟨cc, ac, e⟩)
  clear ho hv hr h0 h1 hins hf ht
  go_enter Try.func84, Try.ntmps84
  go_wp2_with fail
  go_loopw [8] (fun i wr => ∃ k : Nat, i = .int .i64 k ∧ k ≤ l.length ∧ Hid (Below w.heap.size w wr ∧ ∀ j (hj : j < l.length), j < k → staleB fr tw l[j] = false)) (fun i _ => l.length - (intOf i).toNat)
  case atStart => exact ⟨0, rfl, om, lI ⟨Below.refl _ _, fun j _ hj => om⟩⟩
  case round =>
    obtain ⟨k, rfl, hk, HI⟩ := hrel
    by_cases hlt : k < l.length
    · obtain ⟨b, off, rfl, hbl, hel⟩ := HO.out zK
      have hat := (hel k hlt).of_lt HI.out.1 hbl
      obtain ⟨cc, ac, hvi⟩ := HONE.out l[k] (List.getElem_mem hlt)
      have c0 := hat.get (j := 0) (v := .int .u32 l[k].pc) rfl
      have c1 := hat.get (j := 1) (v := l[k].vi) rfl
      simp only [Nat.add_zero] at c0
      rw [hvi] at c1
      have HN : Hid (staleB fr tw l[k] = true → r = k) := lI (fun e => HR.out.trans (firstI_at hlt e (fun j hj => HI.out.2 j om hj)))
      have HG : Hid (staleB fr tw l[k] = false → ∀ j (hj : j < l.length), j < k + 1 → staleB fr tw l[j] = false) := lI (fun e j hj hj2 => by
        by_cases e2 : j = k
        · subst e2; exact e
        · exact HI.out.2 j hj om)
      have HC := lI (HA1.out l[k] (List.getElem_mem hlt) wr HI.out.1)
      rw [hvi] at HC
      have HB := lI HI.out.1
      clear hel hat
      obtain ⟨s, hs⟩ : ∃ s, s = staleB fr tw l[k] := ⟨_, rfl⟩
      rw [← hs] at HN HG
      have hs2 : hasB l[k].pc l[k].ins.length fr tw = s := hs.symm
      rw [hs2] at HC
      obtain ⟨x, hx⟩ : ∃ x, x = l[k].pc := ⟨_, rfl⟩
      obtain ⟨nn, hnn⟩ : ∃ n, n = l[k].ins.length := ⟨_, rfl⟩
      rw [← hx] at c0 HC
      rw [← hnn] at c1 HC
      clear hx hnn hs hs2 hvi
      go_wp2_with fail
      refine HC.out.mono ?_
      rintro e w2 ⟨rfl, hb2⟩
      have HB2 := lI (HB.out.trans (hb2.mono HB.out.size))
      clear hb2 c0 c1
      cases s with
      | true =>
        obtain rfl := HN.out rfl
        go_wp2_with fail
        go_ret
        exact ⟨rfl, HB2.out⟩
      | false =>
        go_wp2_with fail
        exact ⟨⟨k + 1, by simp, om, lI ⟨HB2.out, HG.out zT⟩⟩, by simp [intOf]; omega⟩
    · obtain rfl : k = l.length := om
      obtain rfl := HR.out.trans (firstI_no (fun j hj => HI.out.2 j hj hj))
      go_wp2_with fail
      go_ret
      exact ⟨rfl, HI.out.1⟩
theorem firstI_bool (P : BlkD → Bool) (l : List BlkD) : decide (firstI P l ≥ 0) = l.any P := by
  unfold firstI
  by_cases h : l.findIdx P < l.length
  · rw [if_pos h]
    have : l.any P = true := List.any_eq_true.2 ⟨_, List.getElem_mem h, List.findIdx_getElem⟩
    rw [this]
    simp
  · rw [if_neg h]
    have : l.any P = false := by
      rw [List.any_eq_false]
      intro x hx hp
      exact h (List.findIdx_lt_length_of_exists ⟨x, hx, hp⟩)
    rw [this]
    rfl
theorem econtains_any (v : Value) (l : List BlkD) (fr tw : Int) (pb : Nat) (w : World) (hv : Blks w v l) (h0 : w.cell? ⟨pb, 0, none⟩ = some (.int .u32 fr)) (h1 : w.cell? ⟨pb, 1, none⟩ = some (.int .u32 tw)) (hins : ∀ x ∈ l, x.ins.length ≤ 3518437208883) (hf : U32 fr) (ht : U32 tw) :
    Calls Try.prog 113 #[v, .func (.func 114) #[] #[.pointer (some ⟨pb, 0, none⟩)]] w fun e w' => e = .returned (.bool (l.any (staleB fr tw))) ∧ Below w.heap.size w w' := by
  have HX := lI (eindexStale_any v l fr tw pb w hv h0 h1 hins hf ht)
  have HB := lI (firstI_bool (staleB fr tw) l)
  obtain ⟨r, hr⟩ : ∃ r, r = firstI (staleB fr tw) l := ⟨_, rfl⟩
  rw [← hr] at HX HB
  obtain ⟨ao, cap, rfl, -⟩ := hv.1.open (fun _ _ => rfl) om
  clear hv h0 h1 hins hf ht hr
  go_enter Try.func113, Try.ntmps113
  go_wp2_with fail
  refine HX.out.mono ?_
  rintro e w2 ⟨rfl, hb2⟩
  go_wp2_with fail
  go_ret
  exact ⟨by rw [← HB.out]; rfl, hb2⟩
theorem signed1 (a : Int) (w : World) (h : U32 a) :
    Calls Try.prog 66 #[.int .u32 a] w fun e w' => e = .returned (.int .i64 (wrap32 a)) ∧ w = w' := by
  have hs := signed_wrap h
  have HS := lI hs
  clear hs
  obtain ⟨h0, h1⟩ := h
  go_enter Try.func66, Try.ntmps66
  go_wp2
  all_goals go_ret
  all_goals refine ⟨ret_int ?_, rfl⟩
  all_goals rw [← HS.out]
  all_goals first | (rw [if_pos (by assumption)]; done) | (rw [if_neg om]; done)
theorem power1 (n : Int) (w : World) (h : 0 ≤ n ∧ n ≤ 32) :
    Calls Try.prog 79 #[.int .i64 n] w fun e w' => e = .returned (.int .i64 ((2 ^ n.toNat : Nat) : Int)) ∧ w = w' := by
  obtain ⟨h0, h1⟩ := h
  obtain ⟨n, rfl⟩ := Int.eq_ofNat_of_zero_le h0
  have hn : n ≤ 32 := om
  rw [Int.toNat_natCast]
  clear h0 h1
  go_enter Try.func79, Try.ntmps79
  go_wp2
  go_loop [3, 4] (fun p i => ∃ (k pw : Nat), i = .int .i64 k ∧ k ≤ n ∧ p = .int .i64 pw ∧ pw ≤ 4294967296 ∧ Hid (pw = 2 ^ k)) (fun _ i => n - (intOf i).toNat)
  case atStart => exact ⟨0, 1, rfl, om, rfl, om, lI rfl⟩
  case round =>
    obtain ⟨k, pw, rfl, hk, rfl, hpw, HP⟩ := hrel
    by_cases hlt : k < n
    · have h2 : pw + pw ≤ 4294967296 := by
        rw [HP.out]
        have := pow_le32 (k := k + 1) om
        rw [Nat.pow_succ] at this; omega
      go_wp2
      go_round
      case rel => exact ⟨k + 1, pw + pw, by go_num, om, by go_num, h2, lI (by rw [HP.out, Nat.pow_succ]; omega)⟩
      case measure => simp [intOf]; omega
    · obtain rfl : k = n := om
      go_wp2
      go_ret
      exact ⟨ret_int (by rw [HP.out]; rfl), rfl⟩
end Go.Proofs.Ytlfnddmncbkjaac.W
