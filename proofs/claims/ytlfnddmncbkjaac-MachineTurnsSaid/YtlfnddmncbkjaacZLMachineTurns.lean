/- MachineTurns: for every machine and script: a pick of so many steps is two, one behind the other, of as many together. No condition. -/
import Derived.Test.YtlfnddmncbkjaacZWRun
import Derived.Test.YtlfnddmncbkjaacZWSame
import Derived.Test.YtlfnddmncbkjaacZMA
namespace Go.Proofs.Ytlfnddmncbkjaac.MachineTurnsLaw
set_option linter.unusedVariables false
set_option linter.unusedSimpArgs false
open Go.RowKit Fb W
set_option maxRecDepth 100000 in
set_option maxHeartbeats 1600000 in
theorem walk (vm vh vs : Value) (m : Mach) (l : List (Int × Int)) (at_ cut : Int) (w : World) (hm : MachAt w vm vh m) (wf : m.Wf) (hs : Picks w vs l) (hp : ∀ p ∈ l, i64ok p.1 ∧ i64ok p.2) (ha : 0 ≤ at_ ∧ at_ < 256) (hcu : 0 ≤ cut ∧ cut < 65536) :
    Calls Try.prog 4 #[.agg #[vm, vh], vs, .int .u8 at_, .int .u16 cut] w fun e w' => e = .returned (.bool true) ∧ Below w.heap.size w w' := by
  obtain ⟨aom, capm, rfl, hcm, hmm, -, -⟩ := hm.1.open
  obtain ⟨aoh, caph, rfl, hch, hmh, -, -⟩ := hm.2.open (fun h hh => hlist_length (wf.harts h hh)) (by omega)
  obtain ⟨aos, caps, rfl, hcs, hms, -, hos⟩ := hs.open (fun _ _ => rfl) (by omega)
  unfold maxLen at hmm hmh hms
  obtain ⟨w1, hw1⟩ : ∃ w1, w1 = w.alloc (.cells #[.slice aom m.mem.length capm, .slice aoh m.harts.length caph] 25) := ⟨_, rfl⟩
  have hb1 : Below w.heap.size w w1 := by rw [hw1]; exact (by repeat (first | with_reducible exact Below.refl _ _ | with_reducible refine below_drewN ?_ _ | ((with_reducible refine Below.setCell ?_ ?hq _); case hq => (first | (simp; done) | (simp; omega))) | ((with_reducible refine Below.alloc ?_ ?hq _); case hq => (first | (simp; done) | (simp; omega)))))
  have hs1 : w.heap.size + 1 ≤ w1.heap.size := by rw [hw1]; simp
  have c0 : w1.cell? ⟨w.heap.size, 0, none⟩ = some (.slice aom m.mem.length capm) := by rw [hw1]; go_cell
  have c1 : w1.cell? ⟨w.heap.size, 1, none⟩ = some (.slice aoh m.harts.length caph) := by rw [hw1]; go_cell
  have HR1 := Lib.hid (run_any _ _ _ m wf l w1 (hm.below hb1) (hs.below hb1) hp)
  have HM := Lib.hid hm
  have HS := Lib.hid hs
  have HOS := Lib.hid hos
  have HP := Lib.hid hp
  have HW1 := Lib.hid hw1
  clear hw1 hm hs hos hp
  by_cases hq : wrong m l = 0
  · have hr : runM m l = playM l (startM m) := if_pos hq
    rw [hq, hr] at HR1
    have hpt := wrong_parts hq
    have hlen : (playM l (startM m)).harts.length = m.harts.length := playM_len _ _
    have HQ := Lib.hid hq
    have HGD := Lib.hid (playM_good l (startM_good wf hq))
    obtain ⟨p1, p2, p3, p4, p5, p6⟩ := hpt
    have HP6 := Lib.hid p6
    obtain ⟨sF, hsF⟩ : ∃ s, s = playM l (startM m) := ⟨_, rfl⟩
    rw [← hsF] at HR1 hlen HGD
    have HSF := Lib.hid hsF
    clear hq hr p4 p6 hsF
    go_enter Try.func4, Try.ntmps4
    go_upto_region 1 with (fail)
    rw [← HW1.out]
    go_wp2_with fail
    refine HR1.out.mono ?_
    rintro e w2 ⟨⟨vm2, vh2, vo2, rfl, hsh⟩, hb2⟩
    have hs2 := hb2.size
    have l1 : w.heap.size < w1.heap.size := by omega
    have d0 := (hb2.cell (p := ⟨w.heap.size, 0, none⟩) l1).trans c0
    have d1 := (hb2.cell (p := ⟨w.heap.size, 1, none⟩) l1).trans c1
    have HB2 := Lib.hid (hb1.trans (hb2.mono (by omega)))
    obtain ⟨am2, cm2, rfl, -⟩ := hsh.mach.1.open
    obtain ⟨ah2, ch2, rfl, hch2, hmh2, -, -⟩ := hsh.mach.2.open (fun h hh => hlist_length (HGD.out.wf.harts h hh)) (by omega)
    obtain ⟨ao2, co2, rfl, -⟩ := hsh.out.open
    unfold maxLen at hmh2
    have hlen' : sF.mach.harts.length = m.harts.length := hlen
    rw [hlen'] at hch2
    obtain ⟨w3, hw3⟩ : ∃ w3, w3 = w2.alloc (.cells #[.slice am2 sF.mach.mem.length cm2, .slice ah2 m.harts.length ch2, .slice ao2 sF.out.length co2, .int .i64 sF.steps] 29) := ⟨_, rfl⟩
    have hb3 : Below w2.heap.size w2 w3 := by rw [hw3]; exact (by repeat (first | with_reducible exact Below.refl _ _ | with_reducible refine below_drewN ?_ _ | ((with_reducible refine Below.setCell ?_ ?hq _); case hq => (first | (simp; done) | (simp; omega))) | ((with_reducible refine Below.alloc ?_ ?hq _); case hq => (first | (simp; done) | (simp; omega)))))
    have hs3 : w2.heap.size + 1 ≤ w3.heap.size := by rw [hw3]; simp
    have l2 : w.heap.size < w2.heap.size := by omega
    have f0 := (hb3.cell (p := ⟨w.heap.size, 0, none⟩) l2).trans d0
    have f1 := (hb3.cell (p := ⟨w.heap.size, 1, none⟩) l2).trans d1
    have g0 : (w3).cell? ⟨w2.heap.size, 0, none⟩ = some (.slice am2 sF.mach.mem.length cm2) := by rw [hw3]; go_cell
    have g1 : (w3).cell? ⟨w2.heap.size, 1, none⟩ = some (.slice ah2 m.harts.length ch2) := by rw [hw3]; go_cell
    have g2 : (w3).cell? ⟨w2.heap.size, 2, none⟩ = some (.slice ao2 sF.out.length co2) := by rw [hw3]; go_cell
    have g3 : (w3).cell? ⟨w2.heap.size, 3, none⟩ = some (.int .i64 sF.steps) := by rw [hw3]; go_cell
    have HSH : Hid (ShownAt w3 (.slice am2 sF.mach.mem.length cm2) (.slice ah2 m.harts.length ch2) (.slice ao2 sF.out.length co2) sF) := Lib.hid (by
      rw [hlen'] at hsh
      exact ⟨hsh.mach.below hb3, hsh.out.below hb3⟩)
    have HB3 := Lib.hid (HB2.out.trans (hb3.mono (by omega)))
    have HW3 : Hid (w3 = w2.alloc (.cells #[.slice am2 sF.mach.mem.length cm2, .slice ah2 sF.mach.harts.length ch2, .slice ao2 sF.out.length co2, .int .i64 sF.steps] 29)) := Lib.hid (by rw [hw3, hlen'])
    clear c0 c1 hb1 hb2 HR1 hsh d0 d1 hb3 hlen hlen' hw3
    go_upto_region 2 with (fail)
    rw [← HW3.out]
    by_cases hl0 : l.length = 0
    · go_wp2_with fail
      all_goals
        go_ret
        exact ⟨rfl, HB3.out.trans (by go_grown)⟩
    by_cases hl3 : 300 ≤ l.length
    · go_wp2_with fail
      all_goals
        go_ret
        exact ⟨rfl, HB3.out.trans (by go_grown)⟩
    have hl3' : l.length < 300 := by omega
    have i0 : ¬ (l.length : Int) = 0 := by omega
    have i3 : ¬ (300 : Int) ≤ (l.length : Int) := by omega
    go_upto_region 8 with (fail)
    obtain ⟨b, off, rfl, hbl, hel⟩ := HOS.out (by intro e; rw [e] at hl0; exact hl0 rfl)
    obtain ⟨an, rfl⟩ := Int.eq_ofNat_of_zero_le ha.1
    obtain ⟨cn, rfl⟩ := Int.eq_ofNat_of_zero_le hcu.1
    obtain ⟨ha1, ha2⟩ := ha
    obtain ⟨hc1, hc2⟩ := hcu
    have hlp : 0 < l.length := by omega
    obtain ⟨k, hk, hkk⟩ : ∃ k : Nat, k < l.length ∧ (an : Int) % (l.length : Int) = (k : Int) := ⟨an % l.length, Nat.mod_lt _ hlp, by omega⟩
    have HK := Lib.hid hkk
    have hat := (hel _ hk).below HB3.out
    have e0 := hat.get (j := 0) (v := .int .i64 (l[k]'hk).1) rfl
    have e1 := hat.get (j := 1) (v := .int .i64 (l[k]'hk).2) rfl
    simp only [Nat.add_zero] at e0
    obtain ⟨q1, q2, q3, q4⟩ := HP6.out _ (List.getElem_mem hk)
    obtain ⟨x, hx⟩ : ∃ x, x = (l[k]'hk).1 := ⟨_, rfl⟩
    obtain ⟨y, hy⟩ : ∃ y, y = (l[k]'hk).2 := ⟨_, rfl⟩
    rw [← hx] at e0 q1 q2
    rw [← hy] at e1 q3 q4
    have HX := Lib.hid hx
    have HY := Lib.hid hy
    clear hx hy hkk hat hel
    go_upto_region 9 with (fail)
    rw [HK.out]
    obtain ⟨w4, hw4⟩ : ∃ w4, w4 = w3.alloc (.cells #[.int .i64 x, .int .i64 y] 37) := ⟨_, rfl⟩
    have hb4 : Below w3.heap.size w3 w4 := by rw [hw4]; exact (by repeat (first | with_reducible exact Below.refl _ _ | with_reducible refine below_drewN ?_ _ | ((with_reducible refine Below.setCell ?_ ?hq _); case hq => (first | (simp; done) | (simp; omega))) | ((with_reducible refine Below.alloc ?_ ?hq _); case hq => (first | (simp; done) | (simp; omega)))))
    have hs4 : w3.heap.size + 1 ≤ w4.heap.size := by rw [hw4]; simp
    have h0 : (w4).cell? ⟨w3.heap.size, 0, none⟩ = some (.int .i64 x) := by rw [hw4]; go_cell
    have h1 : (w4).cell? ⟨w3.heap.size, 1, none⟩ = some (.int .i64 y) := by rw [hw4]; go_cell
    have HB4 := Lib.hid (HB3.out.trans (hb4.mono (by omega)))
    have HSH4 : Hid (ShownAt w4 (.slice am2 sF.mach.mem.length cm2) (.slice ah2 m.harts.length ch2) (.slice ao2 sF.out.length co2) sF) := Lib.hid ⟨HSH.out.mach.below hb4, HSH.out.out.below hb4⟩
    have l3 : w.heap.size < w3.heap.size := by omega
    have l4 : w2.heap.size < w3.heap.size := by omega
    have f0' := (hb4.cell (p := ⟨w.heap.size, 0, none⟩) l3).trans f0
    have f1' := (hb4.cell (p := ⟨w.heap.size, 1, none⟩) l3).trans f1
    have g0' := (hb4.cell (p := ⟨w2.heap.size, 0, none⟩) l4).trans g0
    have g1' := (hb4.cell (p := ⟨w2.heap.size, 1, none⟩) l4).trans g1
    have g2' := (hb4.cell (p := ⟨w2.heap.size, 2, none⟩) l4).trans g2
    have g3' := (hb4.cell (p := ⟨w2.heap.size, 3, none⟩) l4).trans g3
    have HW4 := Lib.hid hw4
    clear hw4 hb4 HSH HB3 g0 g1 g2 g3 HK
    go_upto_region 10 with (fail)
    rw [← HW4.out]
    clear e0 e1 f0 f1
    go_upto_region 11 with (fail)
    obtain ⟨n, hn, hn0, hn1⟩ : ∃ n : Int, n = (cn : Int) % (y + 1) ∧ 0 ≤ n ∧ n ≤ y := ⟨(cn : Int) % (y + 1), rfl, Int.emod_nonneg _ (by omega), by have := Int.emod_lt_of_pos (cn : Int) (show 0 < y + 1 by omega); omega⟩
    rw [← hn]
    have HN := Lib.hid hn
    have Q12 := Lib.hid (And.intro q1 q2)
    clear hn ha1 ha2 hc1 hc2 i0 i3 q1 q2
    obtain ⟨j0, hi, hz0, hz1, hz2⟩ := info_parts (show (Try.prog.info? 37).map (fun i => (i.zero, i.size, i.bytes)) = some (some (.agg #[.int .i64 0, .int .i64 0]), 2, 16) by kernel_rfl)
    have HSP := Lib.hid (HS.out.below HB4.out)
    have HA := Lib.hid (Sl.cut (l := l) (f := plist) (s := 2) (fun _ _ => rfl) HSP.out k (by omega))
    have HB := Lib.hid (Sl.rest (l := l) (f := plist) (s := 2) (fun _ _ => rfl) HSP.out (k + 1) (by omega))
    have hone : ∀ L : List (Int × Int), ∀ u ∈ L.flatMap plist, u.oneCell' = true := fun L u hu => by
      obtain ⟨q, _, hu⟩ := List.mem_flatMap.1 hu
      simp only [plist, List.mem_cons, List.not_mem_nil, or_false] at hu
      rcases hu with rfl | rfl <;> rfl
    have HONE := Lib.hid hone
    clear hone
    go_wp2_with (first | (at_builtin; refine append_any rfl _ _ 26 rfl w4.heap.size 37 j0 _ 2 16 Try.underlying26 hi hz0 hz1 hz2 rfl (by decide) _ 0 [] rfl (ownsRow_built _ _ _ _ (Nat.le_refl _)) _ k ((l.take k).flatMap plist) rfl (HA.out.below ?_) (HONE.out _) ?_ ?_ ?_ ?_))
    rotate_right
    · intro v5 w5 hown hgrow
      try simp only [Nat.zero_add, List.nil_append] at hown
      have hb5 : Below w4.heap.size w4 w5 := (Below.alloc (Below.refl _ _) (Nat.le_refl _) _).grown hgrow (by simp) (by intro k hk; simp [Value.ownBlock] at hk; omega)
      have hs5 : w4.heap.size ≤ w5.heap.size := hb5.size
      obtain ⟨a5, c5, rfl⟩ := owns_slice hown
      have l5 : w3.heap.size < w4.heap.size := by omega
      have k0 := (hb5.cell (p := ⟨w3.heap.size, 0, none⟩) l5).trans h0
      have k1 := (hb5.cell (p := ⟨w3.heap.size, 1, none⟩) l5).trans h1
      have HOWN := Lib.hid hown
      have HB5 := Lib.hid hb5
      have HFG := Lib.hid (And.intro f0' (And.intro f1' (And.intro g0' (And.intro g1' (And.intro g2' g3')))))
      obtain ⟨w6, hw6⟩ : ∃ w6, w6 = w5.alloc (.cells #[.int .i64 x, .int .i64 n, .int .i64 x, .int .i64 (y - n)] 37) := ⟨_, rfl⟩
      have hb6 : Below w5.heap.size w5 w6 := by rw [hw6]; exact (by repeat (first | with_reducible exact Below.refl _ _ | with_reducible refine below_drewN ?_ _ | ((with_reducible refine Below.setCell ?_ ?hq _); case hq => (first | (simp; done) | (simp; omega))) | ((with_reducible refine Below.alloc ?_ ?hq _); case hq => (first | (simp; done) | (simp; omega)))))
      have hs6 : w5.heap.size + 1 ≤ w6.heap.size := by rw [hw6]; simp
      have HNEW : Hid (Sl w6 (.slice (some ⟨w5.heap.size, 0, none⟩) 2 2) 2 2 ([(x, n), (x, y - n)].flatMap plist)) := Lib.hid (by
        have := at_alloc w5 ([(x, n), (x, y - n)].flatMap plist) 37 (0, 0)
        rw [hw6]
        exact ⟨rfl, _, 2, rfl, Nat.le_refl _, by decide, (by intro e; cases e), fun a ha _ => by cases ha; exact ⟨rfl, this⟩⟩)
      have HB6 := Lib.hid hb6
      have HW6 := Lib.hid hw6
      clear hw6 hb6 hown hgrow hb5 f0' f1' g0' g1' g2' g3' h0 h1
      go_wp2_with (first | (at_builtin; rw [← HW6.out]; refine append_any rfl _ _ 26 rfl w4.heap.size 37 j0 _ 2 16 Try.underlying26 hi hz0 hz1 hz2 rfl (by decide) _ k ((l.take k).flatMap plist) rfl (owns_below HOWN.out HB6.out) _ 2 ([(x, n), (x, y - n)].flatMap plist) rfl HNEW.out (HONE.out _) ?_ ?_ ?_ ?_))
      rotate_right
      · intro v7 w7 hown7 hgrow7
        have hb7 : Below w4.heap.size w4 w7 := (HB5.out.trans (HB6.out.mono hs5)).grown hgrow7 (by omega) (fun g e => (HOWN.out.lt g e).1)
        have hs7 : w4.heap.size ≤ w7.heap.size := hb7.size
        obtain ⟨a7, c7, rfl⟩ := owns_slice hown7
        have HOWN7 := Lib.hid hown7
        have HB7 := Lib.hid hb7
        have HB47 := Lib.hid (hb7)
        clear hown7 hgrow7 hb7 k0 k1
        have HE : Hid (caps = k + 1 → ∀ n' c', n' = 0 → c' = 0 → Sl w7 (.slice (some ⟨b, off, none⟩) n' c') 2 (l.length - (k + 1)) ((l.drop (k + 1)).flatMap plist)) := Lib.hid (fun hce n' c' e1 e2 => by
          subst e1 e2
          have e3 : l.length = k + 1 := by omega
          rw [List.drop_eq_nil_of_le (by omega), show l.length - (k + 1) = 0 by omega]
          exact ⟨rfl, _, 0, rfl, Nat.le_refl _, by decide, (by intro e; cases e), fun a _ hx => absurd rfl hx⟩)
        have hcx : caps = k + 1 ∨ (caps ≠ k + 1 ∧ k + 1 < caps) := by omega
        have HBO := HB.out.below HB7.out
        have HB2 := Lib.hid HBO
        clear HBO
        rcases hcx with hce | ⟨hce, hce2⟩
        all_goals
          go_wp2_with (first | (at_builtin; refine append_any rfl _ _ 26 rfl w4.heap.size 37 j0 _ 2 16 Try.underlying26 hi hz0 hz1 hz2 rfl (by decide) _ (k + 2) ((l.take k).flatMap plist ++ [(x, n), (x, y - n)].flatMap plist) rfl HOWN7.out _ (l.length - (k + 1)) ((l.drop (k + 1)).flatMap plist) rfl (by first | exact HB2.out | exact HE.out hce _ _ (by omega) (by omega)) (HONE.out _) ?_ ?_ ?_ ?_))
          rotate_right
          · intro v9 w9 hown9 hgrow9
            have hb9 : Below w4.heap.size w4 w9 := HB7.out.grown hgrow9 hs7 (fun g e => (HOWN7.out.lt g e).1)
            have hs9 : w4.heap.size ≤ w9.heap.size := hb9.size
            obtain ⟨a9, c9, rfl⟩ := owns_slice hown9
            have hlo : (l.take k ++ [(x, n), (x, y - n)] ++ l.drop (k + 1)).length = k + 2 + (l.length - (k + 1)) := by simp; omega
            have hoth : Picks w9 (.slice a9 (k + 2 + (l.length - (k + 1))) c9) (l.take k ++ [(x, n), (x, y - n)] ++ l.drop (k + 1)) := by
              have e9 : (l.take k ++ [(x, n), (x, y - n)] ++ l.drop (k + 1)).flatMap plist = (l.take k).flatMap plist ++ (plist (x, n) ++ (plist (x, y - n) ++ (l.drop (k + 1)).flatMap plist)) := by simp
              unfold Picks
              rw [hlo, e9]
              first
              | exact owns_sl hown9
              | simpa using owns_sl hown9
            have hx := HX.out
            have hy := HY.out
            have hw0 : wrong m (l.take k ++ [(x, n), (x, y - n)] ++ l.drop (k + 1)) = 0 := by
              rw [hx, hy]; exact wrong_turns HQ.out k hk n hn0 (by omega) hl3'
            have hpl : playM (l.take k ++ [(x, n), (x, y - n)] ++ l.drop (k + 1)) (startM m) = sF := by
              rw [HSF.out, hx, hy]; exact playM_turns l k hk n hn0 (by omega) _
            have hpo : ∀ p ∈ (l.take k ++ [(x, n), (x, y - n)] ++ l.drop (k + 1)), i64ok p.1 ∧ i64ok p.2 := fun p hp => by
              have h6 := (wrong_parts hw0).2.2.2.2.2 p hp
              unfold i64ok
              omega
            have HRN := Lib.hid (run_any _ _ _ m wf _ w9 (HM.out.below (HB4.out.trans (hb9.mono (by omega)))) hoth hpo)
            rw [hw0, show runM m (l.take k ++ [(x, n), (x, y - n)] ++ l.drop (k + 1)) = sF from (if_pos hw0).trans hpl] at HRN
            obtain ⟨f0, f1, g0, g1, g2, g3⟩ := HFG.out
            have m1 : w.heap.size < w4.heap.size := by omega
            have m2 : w2.heap.size < w4.heap.size := by omega
            have F0 := (hb9.cell (p := ⟨w.heap.size, 0, none⟩) m1).trans f0
            have F1 := (hb9.cell (p := ⟨w.heap.size, 1, none⟩) m1).trans f1
            have G0 := (hb9.cell (p := ⟨w2.heap.size, 0, none⟩) m2).trans g0
            have G1 := (hb9.cell (p := ⟨w2.heap.size, 1, none⟩) m2).trans g1
            have G2 := (hb9.cell (p := ⟨w2.heap.size, 2, none⟩) m2).trans g2
            have G3 := (hb9.cell (p := ⟨w2.heap.size, 3, none⟩) m2).trans g3
            have HB9 := Lib.hid (HB4.out.trans (hb9.mono (by omega)))
            have HSH9 : Hid (ShownAt w9 (.slice am2 sF.mach.mem.length cm2) (.slice ah2 m.harts.length ch2) (.slice ao2 sF.out.length co2) sF) := Lib.hid ⟨HSH4.out.mach.below (hb9), HSH4.out.out.below (hb9)⟩
            clear f0 f1 g0 g1 g2 g3 HFG hx hy hw0 hpl hpo hoth hlo hown9 hgrow9 hb9 HOWN7 HB7 HOWN HA HB HSP HNEW HB2 HE
            go_wp2_with fail
            refine HRN.out.mono ?_
            rintro e w10 ⟨⟨vm3, vh3, vo3, rfl, hsh3⟩, hb10⟩
            have hs10 := hb10.size
            obtain ⟨am3, cm3, rfl, -⟩ := hsh3.mach.1.open
            obtain ⟨ah3, ch3, rfl, -⟩ := hsh3.mach.2.open (fun h hh => hlist_length (HGD.out.wf.harts h hh)) (by omega)
            obtain ⟨ao3, co3, rfl, -⟩ := hsh3.out.open
            have m3 : w2.heap.size < w9.heap.size := by omega
            have K0 := (hb10.cell (p := ⟨w2.heap.size, 0, none⟩) m3).trans G0
            have K1 := (hb10.cell (p := ⟨w2.heap.size, 1, none⟩) m3).trans G1
            have K2 := (hb10.cell (p := ⟨w2.heap.size, 2, none⟩) m3).trans G2
            have K3 := (hb10.cell (p := ⟨w2.heap.size, 3, none⟩) m3).trans G3
            obtain ⟨w11, hw11⟩ : ∃ w11, w11 = w10.alloc (.cells #[.slice am3 sF.mach.mem.length cm3, .slice ah3 sF.mach.harts.length ch3, .slice ao3 sF.out.length co3, .int .i64 sF.steps] 29) := ⟨_, rfl⟩
            have hb11 : Below w10.heap.size w10 w11 := by rw [hw11]; exact (by repeat (first | with_reducible exact Below.refl _ _ | with_reducible refine below_drewN ?_ _ | ((with_reducible refine Below.setCell ?_ ?hq _); case hq => (first | (simp; done) | (simp; omega))) | ((with_reducible refine Below.alloc ?_ ?hq _); case hq => (first | (simp; done) | (simp; omega)))))
            have m4 : w2.heap.size < w10.heap.size := by omega
            have L0 := (hb11.cell (p := ⟨w2.heap.size, 0, none⟩) m4).trans K0
            have L1 := (hb11.cell (p := ⟨w2.heap.size, 1, none⟩) m4).trans K1
            have L2 := (hb11.cell (p := ⟨w2.heap.size, 2, none⟩) m4).trans K2
            have L3 := (hb11.cell (p := ⟨w2.heap.size, 3, none⟩) m4).trans K3
            have z0 : (w11).cell? ⟨w10.heap.size, 0, none⟩ = some (.slice am3 sF.mach.mem.length cm3) := by rw [hw11]; go_cell
            have z1 : (w11).cell? ⟨w10.heap.size, 1, none⟩ = some (.slice ah3 sF.mach.harts.length ch3) := by rw [hw11]; go_cell
            have z2 : (w11).cell? ⟨w10.heap.size, 2, none⟩ = some (.slice ao3 sF.out.length co3) := by rw [hw11]; go_cell
            have z3 : (w11).cell? ⟨w10.heap.size, 3, none⟩ = some (.int .i64 sF.steps) := by rw [hw11]; go_cell
            have hb1011 := hb10.trans (hb11.mono hs10)
            have HSM := Lib.hid (same5 (.slice am2 sF.mach.mem.length cm2) (.slice ah2 m.harts.length ch2) (.slice ao2 sF.out.length co2) (.slice am3 sF.mach.mem.length cm3) (.slice ah3 sF.mach.harts.length ch3) (.slice ao3 sF.out.length co3) sF.mach sF.out sF.steps w11 ⟨HGD.out.wf.mem, HGD.out.wf.harts⟩ (HSH9.out.mach.below hb1011) (hsh3.mach.below hb11) (HSH9.out.out.below hb1011) (hsh3.out.below hb11))
            have HB11 := Lib.hid (HB9.out.trans (hb1011.mono (by omega)))
            have hs11 : w.heap.size ≤ w11.heap.size := HB11.out.size
            have HW11 := Lib.hid hw11
            clear hw11 hb11 hb1011 hb10 hsh3 G0 G1 G2 G3 K0 K1 K2 K3 F0 F1 HRN
            go_upto_region 15 with (fail)
            rw [← HW11.out]
            go_wp2_with (first | (go_at_call 11; refine HSM.out.mono ?_; rintro e w12 ⟨rfl, hb12⟩))
            go_ret
            exact ⟨rfl, HB11.out.trans (hb12.mono hs11)⟩
          all_goals first
            | exact Below.alloc (Below.refl _ _) (Nat.le_refl _) _
            | (unfold maxLen; omega)
            | (simp; done)
            | (simp; omega)
            | omega
      all_goals first
        | (unfold maxLen; omega)
        | (simp; done)
        | (simp; omega)
        | omega
    all_goals first
      | exact Below.alloc (Below.refl _ _) (Nat.le_refl _) _
      | (unfold maxLen; omega)
      | (simp; done)
      | (simp; omega)
      | omega
  · have hr : runM m l = ⟨[], [], [], 0⟩ := if_neg hq
    rw [hr] at HR1
    obtain ⟨q, hqq⟩ : ∃ q, q = wrong m l := ⟨_, rfl⟩
    rw [← hqq] at HR1 hq
    clear hqq hr
    go_enter Try.func4, Try.ntmps4
    go_upto_region 1 with (fail)
    rw [← HW1.out]
    go_wp2_with fail
    refine HR1.out.mono ?_
    rintro e w2 ⟨⟨vm2, vh2, vo2, rfl, hsh⟩, hb2⟩
    have HB2 := Lib.hid (hb1.trans (hb2.mono (by omega)))
    obtain ⟨am2, cm2, rfl, -⟩ := hsh.mach.1.open
    obtain ⟨ah2, ch2, rfl, -⟩ := hsh.mach.2.open (fun h hh => by cases hh) (by omega)
    obtain ⟨ao2, co2, rfl, -⟩ := hsh.out.open
    clear hsh hb2 HR1 c0 c1
    go_wp2_with fail
    go_ret
    exact ⟨rfl, HB2.out.alloc HB2.out.size _⟩
open RowB in
set_option maxRecDepth 100000 in
set_option maxHeartbeats 1600000 in
theorem lifted (os : Os) (started : os.Started) (H : Type) (enc : TypeId × Value → H) :
    ReturnsInHanded {} Try.checked os 4 .any (Rows.machineTurnsSpec.pre6 enc Try.prog Try.f4 Rows.machineTurnsRow.domain false) (Rows.machineTurnsSpec.post enc Try.prog Try.f4 false true false false) := by
  refine RowB.law_lifted (C := Try.checked) (tb := 4) (by kernel_rfl) started (by kernel_rfl) (by kernel_rfl)
    (ChangeSpec.witness6 (enc := enc) (C := Try.checked) false ⟨#[], #[.agg #[.slice none 0 0, .slice none 0 0], .slice none 0 0, .int .u8 0, .int .u16 0], []⟩ 8 (by kernel_rfl) (by kernel_rfl) (by kernel_rfl) (by kernel_rfl))
    rfl (fun ds h => by match ds, h with | [_, _, _, _], _ => rfl) (by kernel_rfl) (by kernel_rfl) (by kernel_rfl) (of_decide_eq_true (by kernel_rfl)) ?_
  intro W base args ds ps hval hA _ hz
  have hp : (Try.f4).params.toList = [25, 26, 5, 35] := by kernel_rfl
  rw [hp] at hA hz
  obtain ⟨v0, vs0, d0, ds0, p0, q0, hargs, rfl, rfl, h0, r0⟩ := ChangeShapes.trodAll_cons hA
  obtain ⟨v1, vs1, d1, ds1, p1, q1, rfl, rfl, rfl, h1, r1⟩ := ChangeShapes.trodAll_cons r0
  obtain ⟨v2, vs2, d2, ds2, p2, q2, rfl, rfl, rfl, h2, r2⟩ := ChangeShapes.trodAll_cons r1
  obtain ⟨v3, vs3, d3, ds3, p3, q3, rfl, rfl, rfl, h3, r3⟩ := ChangeShapes.trodAll_cons r2
  obtain ⟨rfl, rfl, rfl⟩ := ChangeShapes.trodAll_nil r3
  obtain rfl : args = #[v0, v1, v2, v3] := by cases args; simp_all
  obtain ⟨z0, y0⟩ := weights_cons hz
  obtain ⟨z1, y1⟩ := weights_cons y0
  obtain ⟨z2, y2⟩ := weights_cons y1
  obtain ⟨z3, y3⟩ := weights_cons y2
  have k0 := hval 0 25 v0 (by kernel_rfl) rfl
  have k1 := hval 1 26 v1 (by kernel_rfl) rfl
  have k2 := hval 2 5 v2 (by kernel_rfl) rfl
  have k3 := hval 3 35 v3 (by kernel_rfl) rfl
  obtain ⟨⟨vm, vh, m⟩, rfl, hm, wf, _, _⟩ := opens_machine.arg Try.underlying25 k0 h0 z0
  obtain ⟨⟨vs, l⟩, rfl, hs, hp, _⟩ := opens_picks.argSlice (g := fun p : Value × List (Int × Int) => p.1) Try.underlying26 k1 h1 z1
  obtain ⟨a, rfl, rfl, rfl, wa⟩ := ChangeShapes.open_int Try.underlying5 k2 h2
  obtain ⟨c, rfl, rfl, rfl, wc⟩ := ChangeShapes.open_int Try.underlying35 k3 h3
  exact walk vm vh v1 m l a c W hm wf hs hp (Fb.wf_u8 wa) (Fb.wf_u16 wc)
/-- THE STATEMENT -/
theorem proved : Rows.MachineTurnsSaid :=
  OpenClaim.holds_of_wide 4 Try.f4 rfl rfl rfl rfl rfl rfl rfl ⟨rfl, rfl, rfl, rfl, rfl⟩ rfl rfl rfl rfl rfl (by kernel_rfl) Try.func4 (by kernel_rfl)
    (of_decide_eq_true (by kernel_rfl)) (by unfold Func.isWrapper; first | (rw [if_pos (by decide +kernel)]; kernel_rfl) | (rw [if_neg (by decide +kernel)]; exact ⟨rfl, rfl⟩))
    (fun os started H enc _ => lifted os started H enc)
#print axioms proved
end Go.Proofs.Ytlfnddmncbkjaac.MachineTurnsLaw
