/- Package cache: New, clone, at, Find; ferrybridgeref9.Place, walked. -/
import Derived.Test.YtlfnddmncbkjaaaZMB
import Derived.Test.YtlfnddmncbkjaaaZMA
namespace Go.Proofs.Ytlfnddmncbkjaaa.W
set_option linter.unusedVariables false
set_option linter.unusedSimpArgs false
open Go.RowKit Fb
set_option maxRecDepth 100000 in
theorem cnew_any (room : Int) (w : World) (hr : i64ok room) :
    Calls Try.prog 31 #[.int .i64 room] w fun e w' => e = .returned (.tuple #[.agg #[.int .i64 (if room < 0 ∨ 64 < room then 0 else room), .slice none 0 0, .int .i64 0, .int .i64 0], .int .i64 (if room < 0 ∨ 64 < room then 3 else 0)]) ∧ Below w.heap.size w w' := by
  by_cases h : room < 0 ∨ 64 < room
  · rw [if_pos h, if_pos h]
    rcases h with h | h
    · go_enter Try.func31, Try.ntmps31
      go_wp2_with fail
      exact bodyPost_ret (results_c1t (by rfl) _ (by rfl) (load_new w _ _ Try.underlying60 rfl (by kernel_rfl))) rfl ⟨rfl, (by repeat (first | with_reducible exact Below.refl _ _ | with_reducible refine below_drewN ?_ _ | ((with_reducible refine Below.setCell ?_ ?hq _); case hq => (first | (simp; done) | (simp; omega))) | ((with_reducible refine Below.alloc ?_ ?hq _); case hq => (first | (simp; done) | (simp; omega)))))⟩
    · have h0 : ¬ room < 0 := by omega
      go_enter Try.func31, Try.ntmps31
      go_wp2_with fail
      exact bodyPost_ret (results_c1t (by rfl) _ (by rfl) (load_new w _ _ Try.underlying60 rfl (by kernel_rfl))) rfl ⟨rfl, (by repeat (first | with_reducible exact Below.refl _ _ | with_reducible refine below_drewN ?_ _ | ((with_reducible refine Below.setCell ?_ ?hq _); case hq => (first | (simp; done) | (simp; omega))) | ((with_reducible refine Below.alloc ?_ ?hq _); case hq => (first | (simp; done) | (simp; omega)))))⟩
  · rw [if_neg h, if_neg h]
    have h0 : ¬ room < 0 := by omega
    have h1 : ¬ 64 < room := by omega
    clear h
    go_enter Try.func31, Try.ntmps31
    go_wp2_with fail
    exact bodyPost_ret (results_c1t (by rfl) _ (by rfl) (load_new w _ _ Try.underlying60 rfl (by kernel_rfl))) rfl ⟨rfl, (by repeat (first | with_reducible exact Below.refl _ _ | with_reducible refine below_drewN ?_ _ | ((with_reducible refine Below.setCell ?_ ?hq _); case hq => (first | (simp; done) | (simp; omega))) | ((with_reducible refine Below.alloc ?_ ?hq _); case hq => (first | (simp; done) | (simp; omega)))))⟩
set_option maxRecDepth 100000 in
set_option maxHeartbeats 800000 in
theorem place9_any (v : Value) (l : List BlkD) (pc : Int) (w : World) (hv : Sl w v 2 l.length (l.flatMap blist)) :
    Calls Try.prog 34 #[v, .int .u32 pc] w fun e w' => e = .returned (.int .i64 (placeI l pc)) ∧ w' = w := by
  obtain ⟨ao, cap, rfl, hc, hm, -, ho⟩ := hv.open (fun _ _ => rfl) (by omega)
  unfold maxLen at hm
  have HO := Lib.hid ho
  obtain ⟨r, hr⟩ : ∃ r, r = placeI l pc := ⟨_, rfl⟩
  rw [← hr]
  have HR := Lib.hid hr
  clear ho hv hr
  go_enter Try.func34, Try.ntmps34
  go_wp2_with fail
  go_loopw [5] (fun i wr => ∃ k : Nat, i = .int .i64 k ∧ k ≤ l.length ∧ wr = w ∧ Hid (∀ j (hj : j < l.length), j < k → l[j].pc ≠ pc)) (fun i _ => l.length - (intOf i).toNat)
  case atStart => exact ⟨0, rfl, by omega, rfl, Lib.hid (fun j _ hj => by omega)⟩
  case round =>
    obtain ⟨k, rfl, hk, rfl, HI⟩ := hrel
    by_cases hlt : k < l.length
    · obtain ⟨b, off, rfl, -, hel⟩ := HO.out (by intro e; rw [e] at hlt; simp at hlt)
      have c0 := (hel k hlt).get (j := 0) (v := .int .u32 l[k].pc) rfl
      simp only [Nat.add_zero] at c0
      have HN : Hid (l[k].pc = pc → r = k) := Lib.hid (fun e => HR.out.trans (placeI_at hlt e (fun j hj => HI.out j (by omega) hj)))
      have HG : Hid (l[k].pc ≠ pc → ∀ j (hj : j < l.length), j < k + 1 → l[j].pc ≠ pc) := Lib.hid (fun e j hj hj2 => by
        by_cases e2 : j = k
        · subst e2; exact e
        · exact HI.out j hj (by omega))
      clear hel
      obtain ⟨x, hx⟩ : ∃ x, x = l[k].pc := ⟨_, rfl⟩
      rw [← hx] at c0 HN HG
      clear hx
      by_cases he : x = pc
      · obtain rfl := HN.out he
        go_wp2_with fail
        go_ret
        exact ⟨rfl, rfl⟩
      · go_wp2_with fail
        exact ⟨⟨k + 1, by simp, by omega, trivial, Lib.hid (HG.out he)⟩, by simp [intOf]; omega⟩
    · obtain rfl : k = l.length := by omega
      obtain rfl := HR.out.trans (placeI_no (fun j hj => HI.out j hj hj))
      go_wp2_with fail
      go_ret
      exact ⟨rfl, rfl⟩
set_option maxRecDepth 100000 in
theorem at1_any (x : BlkD) (p : Int) (pb : Nat) (w : World) (hp : w.cell? ⟨pb, 0, none⟩ = some (.int .u32 p)) (hx : ∀ u ∈ blist x, u.oneCell' = true) :
    Calls Try.prog 94 #[.agg #[.int .u32 x.pc, x.vi], .pointer (some ⟨pb, 0, none⟩)] w fun e w' => e = .returned (.bool (x.pc == p)) ∧ Below w.heap.size w w' := by
  have hl : pb < w.heap.size := lt_of_cell hp
  go_enter Try.func94, Try.ntmps94
  go_wp2_with fail
  go_ret
  exact ⟨rfl, (by repeat (first | with_reducible exact Below.refl _ _ | with_reducible refine below_drewN ?_ _ | ((with_reducible refine Below.setCell ?_ ?hq _); case hq => (first | (simp; done) | (simp; omega))) | ((with_reducible refine Below.alloc ?_ ?hq _); case hq => (first | (simp; done) | (simp; omega)))))⟩
set_option maxRecDepth 100000 in
set_option maxHeartbeats 800000 in
/-- slices.IndexFunc over blocks, with the closure of cache.at -/
theorem indexOf_any (v : Value) (l : List BlkD) (p : Int) (pb : Nat) (w : World) (hv : Blks w v l) (hp : w.cell? ⟨pb, 0, none⟩ = some (.int .u32 p)) :
    Calls Try.prog 93 #[v, .func (.func 94) #[] #[.pointer (some ⟨pb, 0, none⟩)]] w fun e w' => e = .returned (.int .i64 (placeI l p)) ∧ Below w.heap.size w w' := by
  obtain ⟨ao, cap, rfl, hc, hm, -, ho⟩ := hv.1.open (fun _ _ => rfl) (by omega)
  unfold maxLen at hm
  have HO := Lib.hid ho
  have hlp : pb < w.heap.size := lt_of_cell hp
  have HA1 : Hid (∀ (x : BlkD), x ∈ l → ∀ W, Below w.heap.size w W → Calls Try.prog 94 #[.agg #[.int .u32 x.pc, x.vi], .pointer (some ⟨pb, 0, none⟩)] W fun e w' => e = .returned (.bool (x.pc == p)) ∧ Below W.heap.size W w') := Lib.hid (fun x hx W hW => at1_any x p pb W ((hW.cell (p := ⟨pb, 0, none⟩) hlp).trans hp) (blist_one (hv.2 x hx)))
  obtain ⟨r, hr⟩ : ∃ r, r = placeI l p := ⟨_, rfl⟩
  rw [← hr]
  have HR := Lib.hid hr
  have HONE : Hid (∀ x ∈ l, ∃ n cc ac, x.vi = .slice ac n cc) := Lib.hid (fun x hx => by obtain ⟨ac, cc, e, _⟩ := (hv.2 x hx).at_.open (fun _ _ => rfl) (by omega); exact ⟨_, cc, ac, e⟩)
  clear ho hv hr hp
  go_enter Try.func93, Try.ntmps93
  go_wp2_with fail
  go_loopw [8] (fun i wr => ∃ k : Nat, i = .int .i64 k ∧ k ≤ l.length ∧ Hid (Below w.heap.size w wr ∧ ∀ j (hj : j < l.length), j < k → l[j].pc ≠ p)) (fun i _ => l.length - (intOf i).toNat)
  case atStart => exact ⟨0, rfl, by omega, Lib.hid ⟨Below.refl _ _, fun j _ hj => by omega⟩⟩
  case round =>
    obtain ⟨k, rfl, hk, HI⟩ := hrel
    by_cases hlt : k < l.length
    · obtain ⟨b, off, rfl, hbl, hel⟩ := HO.out (by intro e; rw [e] at hlt; simp at hlt)
      have hat := (hel k hlt).of_lt HI.out.1 hbl
      obtain ⟨nn, cc, ac, hvi⟩ := HONE.out l[k] (List.getElem_mem hlt)
      have c0 := hat.get (j := 0) (v := .int .u32 l[k].pc) rfl
      have c1 := hat.get (j := 1) (v := l[k].vi) rfl
      simp only [Nat.add_zero] at c0
      rw [hvi] at c1
      have HN : Hid (l[k].pc = p → r = k) := Lib.hid (fun e => HR.out.trans (placeI_at hlt e (fun j hj => HI.out.2 j (by omega) hj)))
      have HG : Hid (l[k].pc ≠ p → ∀ j (hj : j < l.length), j < k + 1 → l[j].pc ≠ p) := Lib.hid (fun e j hj hj2 => by
        by_cases e2 : j = k
        · subst e2; exact e
        · exact HI.out.2 j hj (by omega))
      have HC := Lib.hid (HA1.out l[k] (List.getElem_mem hlt) wr HI.out.1)
      rw [hvi] at HC
      have HB := Lib.hid HI.out.1
      clear hel hat
      obtain ⟨x, hx⟩ : ∃ x, x = l[k].pc := ⟨_, rfl⟩
      rw [← hx] at c0 HN HG HC
      clear hx hvi
      go_wp2_with fail
      refine HC.out.mono ?_
      rintro e w2 ⟨rfl, hb2⟩
      have HB2 := Lib.hid (HB.out.trans (hb2.mono HB.out.size))
      clear hb2 c0 c1
      by_cases he : x = p
      · obtain rfl := HN.out he
        have hbq : (x == p) = true := by simpa using he
        rw [hbq]
        go_wp2_with fail
        go_ret
        exact ⟨rfl, HB2.out⟩
      · have hbq : (x == p) = false := by simpa using he
        rw [hbq]
        go_wp2_with fail
        exact ⟨⟨k + 1, by simp, by omega, Lib.hid ⟨HB2.out, HG.out he⟩⟩, by simp [intOf]; omega⟩
    · obtain rfl : k = l.length := by omega
      obtain rfl := HR.out.trans (placeI_no (fun j hj => HI.out.2 j hj hj))
      go_wp2_with fail
      go_ret
      exact ⟨rfl, HI.out.1⟩
end Go.Proofs.Ytlfnddmncbkjaaa.W
