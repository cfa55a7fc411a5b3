/- CacheDoes: for every cache, every block, place and bytes, the program tells what is found, what is kept behind it, and what is not stale. No condition. -/
import Derived.Deep.CutRange
import Derived.Test.YtlfnddmncbkjaaaZWCache1
import Derived.Test.YtlfnddmncbkjaaaZWCache2
import Derived.Test.YtlfnddmncbkjaaaZWCache6
import Derived.Test.YtlfnddmncbkjaaaZWCache8
import Derived.Test.YtlfnddmncbkjaaaZWRef9a
import Derived.Test.YtlfnddmncbkjaaaZWRef9b
import Derived.Test.YtlfnddmncbkjaaaZWRef9c
import Derived.Test.YtlfnddmncbkjaaaZWSame6
import Derived.Test.YtlfnddmncbkjaaaZOpenCache
import Derived.Test.YtlfnddmncbkjaaaZMA
namespace Go.Proofs.Ytlfnddmncbkjaaa.CacheDoesLaw
set_option linter.unusedVariables false
set_option linter.unusedSimpArgs false
open Go.RowKit Fb W
set_option maxRecDepth 100000 in
theorem find_any (room : Int) (v : Value) (pu st : Int) (l : List BlkD) (p : Int) (w : World) (hv : Blks w v l) (hins : ∀ x ∈ l, x.ins.length ≤ 3518437208883) (F : Int × List InsD) (fb : Bool)
    (hF : (fb = true ∧ ∃ h : placeN l p < l.length, F = l[placeN l p].abs) ∨ (fb = false ∧ ¬ placeN l p < l.length ∧ F = (0, []))) :
    Calls Try.prog 33 #[.agg #[.int .i64 room, v, .int .i64 pu, .int .i64 st], .int .u32 p] w fun e w' => (∃ z : BlkD, e = .returned (.tuple #[.agg #[.int .u32 z.pc, z.vi], .bool fb]) ∧ BlkOk w' z ∧ z.abs = F) ∧ Below w.heap.size w w' := by
  rcases hF with ⟨rfl, h, rfl⟩ | ⟨rfl, h, rfl⟩
  · refine (cfind_yes room v pu st l p w hv hins h).mono ?_
    rintro e w' ⟨⟨y, rfl, h1, h2, h3⟩, hb⟩
    exact ⟨⟨y, rfl, h3, by unfold BlkD.abs; rw [h1, h2]⟩, hb⟩
  · refine (cfind_no room v pu st l p w hv hins h).mono ?_
    rintro e w' ⟨rfl, hb⟩
    exact ⟨⟨⟨0, .slice none 0 0, []⟩, rfl, ⟨Sl.nil _ _, by show U32 0; exact ⟨by omega, by omega⟩⟩, rfl⟩, hb⟩
set_option maxRecDepth 100000 in
set_option maxHeartbeats 8000000 in
theorem walk (room rm : Int) (v : Value) (pu st : Int) (l : List BlkD) (y : BlkD) (p fr tw : Int) (w : World) (hroom : i64ok room) (hrm : i64ok rm) (hpu : i64ok pu) (hst : i64ok st) (hv : Blks w v l) (hins : ∀ x ∈ l, x.ins.length ≤ 3518437208883) (hl : l.length * 32 ≤ 140737488351232) (hy : BlkOk w y) (hf : U32 fr) (ht : U32 tw) :
    Calls Try.prog 12 #[.int .i64 room, .agg #[.int .i64 rm, v, .int .i64 pu, .int .i64 st], .agg #[.int .u32 y.pc, y.vi], .int .u32 p, .agg #[.int .u32 fr, .int .u32 tw]] w fun e w' => e = .returned (.bool true) ∧ Below w.heap.size w w' := by
  obtain ⟨ao, cap, rfl, -⟩ := hv.1.open (fun _ _ => rfl) (by omega)
  obtain ⟨ay, cy, hyv, -⟩ := hy.at_.open (fun _ _ => rfl) (by omega)
  rw [hyv]
  have hyo := hy
  obtain ⟨w1, hw1⟩ : ∃ w1, w1 = ((w.alloc (.cells #[.int .i64 rm, .slice ao l.length cap, .int .i64 pu, .int .i64 st] 60)).alloc (.cells #[.int .u32 y.pc, .slice ay y.ins.length cy] 63)).alloc (.cells #[.int .u32 fr, .int .u32 tw] 65) := ⟨_, rfl⟩
  have hb1 : Below w.heap.size w w1 := by rw [hw1]; exact (by repeat (first | with_reducible exact Below.refl _ _ | with_reducible refine below_drewN ?_ _ | ((with_reducible refine Below.setCell ?_ ?hq _); case hq => (first | (simp; done) | (simp; omega))) | ((with_reducible refine Below.alloc ?_ ?hq _); case hq => (first | (simp; done) | (simp; omega)))))
  have hs1 : w1.heap.size = w.heap.size + 3 := by rw [hw1]; simp
  have c0 : (w1).cell? ⟨w.heap.size, 0, none⟩ = some (.int .i64 rm) := by rw [hw1]; go_cell
  have c1 : (w1).cell? ⟨w.heap.size, 1, none⟩ = some (.slice ao l.length cap) := by rw [hw1]; go_cell
  have c2 : (w1).cell? ⟨w.heap.size, 2, none⟩ = some (.int .i64 pu) := by rw [hw1]; go_cell
  have c3 : (w1).cell? ⟨w.heap.size, 3, none⟩ = some (.int .i64 st) := by rw [hw1]; go_cell
  have b0 : (w1).cell? ⟨w.heap.size + 1, 0, none⟩ = some (.int .u32 y.pc) := by rw [hw1]; go_cell
  have b1 : (w1).cell? ⟨w.heap.size + 1, 1, none⟩ = some (.slice ay y.ins.length cy) := by rw [hw1]; go_cell
  have r0 : (w1).cell? ⟨w.heap.size + 1 + 1, 0, none⟩ = some (.int .u32 fr) := by rw [hw1]; go_cell
  have r1 : (w1).cell? ⟨w.heap.size + 1 + 1, 1, none⟩ = some (.int .u32 tw) := by rw [hw1]; go_cell
  have HC : Hid (∀ W, Below w1.heap.size w1 W → At W w.heap.size 0 [.int .i64 rm, .slice ao l.length cap, .int .i64 pu, .int .i64 st] ∧ At W (w.heap.size + 1) 0 [.int .u32 y.pc, .slice ay y.ins.length cy] ∧ At W (w.heap.size + 1 + 1) 0 [.int .u32 fr, .int .u32 tw] ∧ Blks W (.slice ao l.length cap) l ∧ BlkOk W y) := Lib.hid (fun W hW =>
    ⟨(at_cons c0 (at_cons c1 (at_cons c2 (at_cons c3 at_nil)))).below hW, (at_cons b0 (at_cons b1 at_nil)).below hW, (at_cons r0 (at_cons r1 at_nil)).below hW, (hv.below hb1).below hW, (hy.below hb1).below hW⟩)
  have HYV := Lib.hid hyv
  have HB1 := Lib.hid hb1
  have HW1 := Lib.hid hw1
  obtain ⟨E, hE⟩ : ∃ E : Int, E = (if room < 0 ∨ 64 < room then 3 else 0) := ⟨_, rfl⟩
  obtain ⟨N, hN⟩ : ∃ N : Int, N = (if room < 0 ∨ 64 < room then 0 else room) := ⟨_, rfl⟩
  have HNEW := Lib.hid (cnew_any room w1 hroom)
  rw [← hE, ← hN] at HNEW
  obtain ⟨fb, F, hF⟩ : ∃ (fb : Bool) (F : Int × List InsD), (fb = true ∧ ∃ h : placeN l p < l.length, F = l[placeN l p].abs) ∨ (fb = false ∧ ¬ placeN l p < l.length ∧ F = (0, [])) := by
    by_cases h : placeN l p < l.length
    · exact ⟨true, _, .inl ⟨rfl, h, rfl⟩⟩
    · exact ⟨false, _, .inr ⟨rfl, h, rfl⟩⟩
  have HFIND := Lib.hid (fun W hW => find_any rm (.slice ao l.length cap) pu st l p W (HC.out W hW).2.2.2.1 hins F fb hF)
  obtain ⟨q, hq⟩ : ∃ q, q = placeI l p := ⟨_, rfl⟩
  have HPL := Lib.hid (fun W hW => place9_any (.slice ao l.length cap) l p W (HC.out W hW).2.2.2.1.1)
  rw [← hq] at HPL
  have HST := Lib.hid (fun W hW => cstale_any rm (.slice ao l.length cap) pu st l fr tw W (HC.out W hW).2.2.2.1 hins hl hf ht)
  have HST9 := Lib.hid (fun W hW => stale9_any rm (.slice ao l.length cap) pu st l fr tw W hst (HC.out W hW).2.2.2.1 hins hl hf ht)
  have HPB := Lib.hid (fun W hW (hbad : y.ins.length < 1 ∨ 16 < y.ins.length) => cput_bad rm (.slice ao l.length cap) pu st l y W (HC.out W hW).2.2.2.1 (HC.out W hW).2.2.2.2 hbad hl)
  have HPU := Lib.hid (fun W hW (h1 : 1 ≤ y.ins.length) (h2 : y.ins.length ≤ 16) => cput_any rm (.slice ao l.length cap) pu st l y W (HC.out W hW).2.2.2.1 (HC.out W hW).2.2.2.2 h1 h2 hins hl)
  have HPU9 := Lib.hid (fun W hW => put9_any rm (.slice ao l.length cap) pu st l y W hrm hpu (HC.out W hW).2.2.2.1 (HC.out W hW).2.2.2.2 hl)
  rw [HYV.out] at HPB HPU HPU9
  have HF := Lib.hid hF
  have HQ := Lib.hid hq
  have HE := Lib.hid (And.intro hE hN)
  have hl2 : l.length ≤ 4398046510976 := by omega
  obtain ⟨n, hn⟩ : ∃ n, n = y.ins.length := ⟨_, rfl⟩
  rw [← hn] at HC HPB HPU HPU9 b1 hw1 HW1
  have HNY := Lib.hid hn
  clear hv hy hyo hins hl hyv hF hq hE hN hb1 hw1 hrm hpu hst hf ht hn
  go_enter Try.func12, Try.ntmps12
  rw [HNY.out.symm]
  go_upto_region 1 with (fail)
  rw [← HW1.out]
  clear c0 c1 c2 c3 b0 b1 r0 r1
  go_wp2_with fail
  refine HNEW.out.mono ?_
  rintro e w2 ⟨rfl, hb2⟩
  obtain ⟨w3, hw3⟩ : ∃ w3, w3 = w2.alloc (.cells #[.int .i64 N, .slice none 0 0, .int .i64 0, .int .i64 0] 60) := ⟨_, rfl⟩
  have hb23 : Below w2.heap.size w2 w3 := by rw [hw3]; exact (by repeat (first | with_reducible exact Below.refl _ _ | with_reducible refine below_drewN ?_ _ | ((with_reducible refine Below.setCell ?_ ?hq _); case hq => (first | (simp; done) | (simp; omega))) | ((with_reducible refine Below.alloc ?_ ?hq _); case hq => (first | (simp; done) | (simp; omega)))))
  have n0 : (w3).cell? ⟨w2.heap.size, 0, none⟩ = some (.int .i64 N) := by rw [hw3]; go_cell
  have n1 : (w3).cell? ⟨w2.heap.size, 1, none⟩ = some (.slice none 0 0) := by rw [hw3]; go_cell
  have n2 : (w3).cell? ⟨w2.heap.size, 2, none⟩ = some (.int .i64 0) := by rw [hw3]; go_cell
  have n3 : (w3).cell? ⟨w2.heap.size, 3, none⟩ = some (.int .i64 0) := by rw [hw3]; go_cell
  have HB3 : Hid (Below w1.heap.size w1 w3) := Lib.hid (hb2.trans (hb23.mono hb2.size))
  have HW3 := Lib.hid hw3
  have HSM : Hid (∀ W k, Calls Try.prog 32 #[.agg #[.int .i64 k, .slice none 0 0, .int .i64 0, .int .i64 0], .agg #[.int .i64 k, .slice none 0 0, .int .i64 0, .int .i64 0]] W fun e w' => e = .returned (.bool true) ∧ Below W.heap.size W w') := Lib.hid (fun W k => same9_any k 0 0 _ _ [] [] W ⟨Sl.nil _ _, by simp⟩ ⟨Sl.nil _ _, by simp⟩ rfl)
  clear hb2 hb23 hw3
  go_upto_region 2 with (fail)
  rw [← HW3.out]
  obtain ⟨B, hB⟩ : ∃ B : Bool, B = decide (room < 0 ∨ 64 < room) := ⟨_, rfl⟩
  have HBB := Lib.hid hB
  clear hB
  go_cut [31] from 26 to 31 (fun s wx => s = .bool B ∧ wx = w3)
  case first =>
    by_cases h1 : room < 0
    · go_wp2_with fail
      go_meet
      case rel => exact ⟨by rw [HBB.out]; simp [h1], rfl⟩
    · by_cases h2 : 64 < room
      · go_wp2_with fail
        go_meet
        case rel => exact ⟨by rw [HBB.out]; simp [h2], rfl⟩
      · go_wp2_with fail
        go_meet
        case rel => exact ⟨by rw [HBB.out]; simp [h1, h2], rfl⟩
  case rest =>
    obtain ⟨rfl, rfl⟩ := hcut
    go_upto_if 31 with (fail)
    go_cut [] from 32 to 48 (fun wx => Hid (Below w1.heap.size w1 wx))
    case first =>
      cases B with
      | true =>
        have hBB : room < 0 ∨ 64 < room := by have := HBB.out; simpa using this
        obtain ⟨he, hn⟩ := HE.out
        rw [if_pos hBB] at he hn
        subst he hn
        go_wp2_with fail
        refine (HSM.out _ _).mono ?_
        rintro e w4 ⟨rfl, hb4⟩
        go_wp2_with fail
        go_meet
        case rel => exact Lib.hid (HB3.out.trans (hb4.mono HB3.out.size))
      | false =>
        have hBB : ¬ (room < 0 ∨ 64 < room) := by have := HBB.out; simpa using this
        obtain ⟨he, hn⟩ := HE.out
        rw [if_neg hBB] at he hn
        subst he hn
        go_wp2_with fail
        refine (HSM.out _ _).mono ?_
        rintro e w4 ⟨rfl, hb4⟩
        go_wp2_with fail
        go_meet
        case rel => exact Lib.hid (HB3.out.trans (hb4.mono HB3.out.size))
    case rest =>
      clear n0 n1 n2 n3 HB3 HW3 HNEW
      obtain ⟨w5, hw5⟩ : ∃ x, x = wc := ⟨_, rfl⟩
      rw [← hw5] at hcut ⊢
      clear hw5
      have HB5 := hcut
      clear hcut
      have c0 := ((HC.out _ HB5.out).1).get (j := 0) rfl
      have c1 := ((HC.out _ HB5.out).1).get (j := 1) rfl
      have c2 := ((HC.out _ HB5.out).1).get (j := 2) rfl
      have c3 := ((HC.out _ HB5.out).1).get (j := 3) rfl
      simp only [Nat.add_zero, Nat.zero_add] at c0 c1 c2 c3
      go_wp2_with fail
      refine (HFIND.out _ HB5.out).mono ?_
      rintro e w6 ⟨⟨z, rfl, hz, hza⟩, hb6⟩
      clear c0 c1 c2 c3
      obtain ⟨az, cz, hzv, -⟩ := hz.at_.open (fun _ _ => rfl) (by omega)
      have HB6 : Hid (Below w1.heap.size w1 w6) := Lib.hid (HB5.out.trans (hb6.mono HB5.out.size))
      obtain ⟨w7, hw7⟩ : ∃ w7, w7 = w6.alloc (.cells #[.int .u32 z.pc, .slice az z.ins.length cz] 63) := ⟨_, rfl⟩
      have hb67 : Below w6.heap.size w6 w7 := by rw [hw7]; exact (by repeat (first | with_reducible exact Below.refl _ _ | with_reducible refine below_drewN ?_ _ | ((with_reducible refine Below.setCell ?_ ?hq _); case hq => (first | (simp; done) | (simp; omega))) | ((with_reducible refine Below.alloc ?_ ?hq _); case hq => (first | (simp; done) | (simp; omega)))))
      have hs67 : w6.heap.size < w7.heap.size := by rw [hw7]; simp
      have f0 : (w7).cell? ⟨w6.heap.size, 0, none⟩ = some (.int .u32 z.pc) := by rw [hw7]; go_cell
      have f1 : (w7).cell? ⟨w6.heap.size, 1, none⟩ = some (.slice az z.ins.length cz) := by rw [hw7]; go_cell
      have HB7 : Hid (Below w1.heap.size w1 w7) := Lib.hid (HB6.out.trans (hb67.mono HB6.out.size))
      have HZ := Lib.hid (And.intro (hz.below hb67) hza)
      have HFX : Hid (∀ W, Below w7.heap.size w7 W → At W w6.heap.size 0 [.int .u32 z.pc, .slice az z.ins.length cz]) := Lib.hid (fun W hW => (at_cons f0 (at_cons f1 at_nil)).below hW)
      have HZV := Lib.hid hzv
      have HW7 := Lib.hid hw7
      rw [hzv]
      clear hz hza hb6 hb67 hw7 hzv f0 f1
      go_upto_region 8 with (fail)
      rw [← HW7.out]
      have c0 := ((HC.out _ HB7.out).1).get (j := 0) rfl
      have c1 := ((HC.out _ HB7.out).1).get (j := 1) rfl
      have c2 := ((HC.out _ HB7.out).1).get (j := 2) rfl
      have c3 := ((HC.out _ HB7.out).1).get (j := 3) rfl
      simp only [Nat.add_zero, Nat.zero_add] at c0 c1 c2 c3
      go_wp2_with fail
      refine (HPL.out _ HB7.out).mono ?_
      rintro e w8 ⟨rfl, rfl⟩
      clear c0 c1 c2 c3
      go_upto_region 9 with (fail)
      go_cut [86] from 59 to 85 (fun s wx => s = .bool false ∧ Hid (Below w8.heap.size w8 wx))
      case first =>
        rcases HF.out with ⟨rfl, h, hF⟩ | ⟨rfl, h, hF⟩
        · obtain ⟨k, hk⟩ : ∃ k, k = placeN l p := ⟨_, rfl⟩
          have hqk : q = (k : Int) := by rw [HQ.out]; unfold placeI; rw [if_pos h, hk]
          subst hqk
          have hkl : k < l.length := by rw [hk]; exact h
          obtain ⟨x, hx⟩ : ∃ x, x = l[k] := ⟨_, rfl⟩
          have hzx : z.abs = x.abs := by rw [HZ.out.2, hF, hx]; simp only [hk]
          have hB8 := (HC.out _ HB7.out).2.2.2.1
          obtain ⟨ao', cap', e, -, -, -, ho⟩ := hB8.1.open (fun _ _ => rfl) (by omega)
          obtain ⟨b, off, e2, hbl, hel⟩ := ho (by intro e; rw [e] at hkl; simp at hkl)
          cases e
          subst e2
          have HX : Hid (∀ W, Below w8.heap.size w8 W → At W b (off + k * 2) [.int .u32 x.pc, x.vi]) := Lib.hid (fun W hW => by have := hel k hkl; rw [← hx] at this; exact At.below this hW)
          have HXO : BlkOk w8 x := hB8.2 x (by rw [hx]; exact List.getElem_mem hkl)
          have HS : Hid (∀ W, Below w8.heap.size w8 W → Calls Try.prog 35 #[.agg #[.int .u32 z.pc, .slice az z.ins.length cz], .agg #[.int .u32 x.pc, x.vi]] W fun e w' => e = .returned (.bool true) ∧ Below W.heap.size W w') := Lib.hid (fun W hW => by
            have e1 : z.pc = x.pc := congrArg Prod.fst hzx
            have e2 : z.ins = x.ins := congrArg Prod.snd hzx
            rw [← e1, ← HZV.out]
            exact same6_any z.vi x.vi z.ins z.pc W (HZ.out.1.below hW).at_ (by rw [e2]; exact (HXO.below hW).at_))
          have HC1 : Hid (∀ W, Below w8.heap.size w8 W → W.cell? ⟨w.heap.size, 1, none⟩ = some (.slice (some ⟨b, off, none⟩) l.length cap)) := Lib.hid (fun W hW => (HC.out W (HB7.out.trans (hW.mono HB7.out.size))).1.get (j := 1) rfl)
          have i0 : (0 : Int) ≤ (k : Int) := by omega
          have i1 : (k : Int) < (l.length : Int) := by omega
          have i2 : decide ((k : Int) < 0) = false := by simp
          have i3 : decide ((0 : Int) ≤ (k : Int)) = true := by simp
          clear hk hx hzx ho hel HXO hB8 h hF
          refine region_quiet_lit (fun W => Below w8.heap.size w8 W) (by kernel_rfl) (by kernel_rfl) (Below.drew (Below.refl _ _)) ?_
          iterate 8 go_big_quiet_step ((intro _; rfl))
          refine wpQuiet_load_g (by rfl) 63 _ rfl w6.heap.size 0 rfl #[.int .u32 z.pc, .slice az z.ins.length cz] _ (fun W hW => HFX.out W hW) Try.underlying63 rfl (by show _ = some 2; kernel_rfl) ?_
          simp only [Act.put, List.setIfInBounds_toArray, List.set_cons_zero, List.set_cons_succ]
          go_big_quiet_step ((intro _; rfl))
          refine wpQuiet_cell_g (by rfl) 58 _ rfl ⟨w.heap.size, 1, none⟩ rfl (.slice (some ⟨b, off, none⟩) l.length cap) (fun W hW => by have hc := HC1.out W hW; go_simp) ?_
          simp only [Act.put, List.setIfInBounds_toArray, List.set_cons_zero, List.set_cons_succ]
          iterate 2 go_big_quiet_step ((intro _; rfl))
          refine wpQuiet_load_g (by rfl) 63 _ rfl b (off + k * 2) rfl #[.int .u32 x.pc, x.vi] _ (fun W hW => HX.out W hW) Try.underlying63 rfl (by show _ = some 2; kernel_rfl) ?_
          simp only [Act.put, List.setIfInBounds_toArray, List.set_cons_zero, List.set_cons_succ]
          go_big_quiet_step ((intro hC; exact (HS.out _ hC).mono (fun e w'' ⟨he, hb⟩ => ⟨he, hC.trans (hb.mono hC.size)⟩)))
          repeat (go_big_quiet_step ((intro _; rfl)))
          refine wpQuiet_nil ?_
          intro w9 hb9
          go_wp2_with fail
          go_meet
          case rel => exact ⟨rfl, Lib.hid hb9⟩
        · have hqk : q = -1 := by rw [HQ.out]; unfold placeI; rw [if_neg h]
          have hq1 : decide ((0 : Int) ≤ q) = false := by rw [hqk]; rfl
          have hq2 : q < 0 := by omega
          clear hqk
          have HS : Hid (∀ W, Below w8.heap.size w8 W → Calls Try.prog 35 #[.agg #[.int .u32 z.pc, .slice az z.ins.length cz], .agg #[.int .u32 0, .slice none 0 0]] W fun e w' => e = .returned (.bool true) ∧ Below W.heap.size W w') := Lib.hid (fun W hW => by
            have e1 : z.pc = 0 := congrArg Prod.fst (HZ.out.2.trans hF)
            have e2 : z.ins = [] := congrArg Prod.snd (HZ.out.2.trans hF)
            rw [← HZV.out, e1]
            have := same6_any z.vi (.slice none 0 0) z.ins 0 W (HZ.out.1.below hW).at_ (by rw [e2]; exact Sl.nil _ _)
            exact this)
          clear h hF
          refine region_quiet_lit (fun W => Below w8.heap.size w8 W) (by kernel_rfl) (by kernel_rfl) (Below.drew (Below.refl _ _)) ?_
          iterate 22 go_big_quiet_step ((intro _; rfl))
          refine wpQuiet_load_g (by rfl) 63 _ rfl w6.heap.size 0 rfl #[.int .u32 z.pc, .slice az z.ins.length cz] _ (fun W hW => HFX.out W hW) Try.underlying63 rfl (by show _ = some 2; kernel_rfl) ?_
          simp only [Act.put, List.setIfInBounds_toArray, List.set_cons_zero, List.set_cons_succ]
          go_big_quiet_step ((intro _; rfl))
          go_big_quiet_step ((intro hC; exact (HS.out _ hC).mono (fun e w'' ⟨he, hb⟩ => ⟨he, hC.trans (hb.mono hC.size)⟩)))
          repeat (go_big_quiet_step ((intro _; rfl)))
          refine wpQuiet_nil ?_
          intro w9 hb9
          go_wp2_with fail
          go_meet
          case rel => exact ⟨rfl, Lib.hid hb9⟩
      case rest =>
        obtain ⟨rfl, hcut2⟩ := hcut
        obtain ⟨w9, hw9⟩ : ∃ x, x = wc := ⟨_, rfl⟩
        rw [← hw9] at hcut2 ⊢
        clear hw9
        have HB9 : Hid (Below w1.heap.size w1 w9) := Lib.hid (HB7.out.trans (hcut2.out.mono HB7.out.size))
        clear hcut2 HB7 HW7 HZ HFX HZV HPL HFIND HF HQ HB5 HB6 HBB HE
        obtain ⟨ks, hks⟩ : ∃ ks, ks = l.filter (fun x => !staleB fr tw x) := ⟨_, rfl⟩
        obtain ⟨sn, hsn⟩ : ∃ sn, sn = wrap64 (st + ((l.length : Int) - (ks.length : Int))) := ⟨_, rfl⟩
        rw [← hks, ← hsn] at HST9
        have HSS : Hid (∀ zs : List BlkD, zs.map BlkD.abs = (l.filter (fun x => !staleB fr tw x)).map BlkD.abs → zs.map BlkD.abs = ks.map BlkD.abs ∧ wrap64 (st + ((l.length : Int) - (zs.length : Int))) = sn) := Lib.hid (fun zs h => by
          rw [← hks] at h
          have hl : zs.length = ks.length := by have := congrArg List.length h; simpa using this
          exact ⟨h, by rw [hsn, hl]⟩)
        clear hks hsn
        have c0 := ((HC.out _ HB9.out).1).get (j := 0) rfl
        have c1 := ((HC.out _ HB9.out).1).get (j := 1) rfl
        have c2 := ((HC.out _ HB9.out).1).get (j := 2) rfl
        have c3 := ((HC.out _ HB9.out).1).get (j := 3) rfl
        simp only [Nat.add_zero, Nat.zero_add] at c0 c1 c2 c3
        have r0 := ((HC.out _ HB9.out).2.2.1).get (j := 0) rfl
        have r1 := ((HC.out _ HB9.out).2.2.1).get (j := 1) rfl
        simp only [Nat.add_zero, Nat.zero_add] at r0 r1
        go_wp2_with fail
        refine (HST.out _ HB9.out).mono ?_
        rintro e w10 ⟨⟨vs, zs, rfl, hbs, hzs⟩, hb10⟩
        obtain ⟨h1, h2⟩ := HSS.out zs hzs
        rw [h2]
        have hl1 : zs.length = ks.length := by have := congrArg List.length h1; simpa using this
        obtain ⟨asl, cs, rfl, -⟩ := hbs.1.open (fun _ _ => rfl) (by omega)
        rw [hl1] at hbs ⊢
        clear c0 c1 c2 c3 r0 r1 h2 hzs
        have HB10 : Hid (Below w1.heap.size w1 w10) := Lib.hid (HB9.out.trans (hb10.mono HB9.out.size))
        obtain ⟨w11, hw11⟩ : ∃ w11, w11 = w10.alloc (.cells #[.int .i64 rm, .slice asl ks.length cs, .int .i64 pu, .int .i64 sn] 60) := ⟨_, rfl⟩
        have hb11 : Below w10.heap.size w10 w11 := by rw [hw11]; exact (by repeat (first | with_reducible exact Below.refl _ _ | with_reducible refine below_drewN ?_ _ | ((with_reducible refine Below.setCell ?_ ?hq _); case hq => (first | (simp; done) | (simp; omega))) | ((with_reducible refine Below.alloc ?_ ?hq _); case hq => (first | (simp; done) | (simp; omega)))))
        have hs11 : w10.heap.size < w11.heap.size := by rw [hw11]; simp
        have s0 : (w11).cell? ⟨w10.heap.size, 0, none⟩ = some (.int .i64 rm) := by rw [hw11]; go_cell
        have s1 : (w11).cell? ⟨w10.heap.size, 1, none⟩ = some (.slice asl ks.length cs) := by rw [hw11]; go_cell
        have s2 : (w11).cell? ⟨w10.heap.size, 2, none⟩ = some (.int .i64 pu) := by rw [hw11]; go_cell
        have s3 : (w11).cell? ⟨w10.heap.size, 3, none⟩ = some (.int .i64 sn) := by rw [hw11]; go_cell
        have HB11 : Hid (Below w1.heap.size w1 w11) := Lib.hid (HB10.out.trans (hb11.mono HB10.out.size))
        have HBS := Lib.hid (hbs.below hb11)
        have H1 := Lib.hid h1
        have HL1 := Lib.hid hl1
        have HW11 := Lib.hid hw11
        clear hbs hb10 hb11 hw11 h1 hl1
        go_upto_region 12 with (fail)
        rw [← HW11.out]
        have c0 := ((HC.out _ HB11.out).1).get (j := 0) rfl
        have c1 := ((HC.out _ HB11.out).1).get (j := 1) rfl
        have c2 := ((HC.out _ HB11.out).1).get (j := 2) rfl
        have c3 := ((HC.out _ HB11.out).1).get (j := 3) rfl
        simp only [Nat.add_zero, Nat.zero_add] at c0 c1 c2 c3
        have r0 := ((HC.out _ HB11.out).2.2.1).get (j := 0) rfl
        have r1 := ((HC.out _ HB11.out).2.2.1).get (j := 1) rfl
        simp only [Nat.add_zero, Nat.zero_add] at r0 r1
        go_wp2_with fail
        refine (HST9.out _ HB11.out).mono ?_
        rintro e w12 ⟨⟨vt, rfl, hbt⟩, hb12⟩
        obtain ⟨atl, ct, rfl, -⟩ := hbt.1.open (fun _ _ => rfl) (by omega)
        clear c0 c1 c2 c3 r0 r1
        have HB12 : Hid (Below w1.heap.size w1 w12) := Lib.hid (HB11.out.trans (hb12.mono HB11.out.size))
        obtain ⟨w13, hw13⟩ : ∃ w13, w13 = w12.alloc (.cells #[.int .i64 rm, .slice atl ks.length ct, .int .i64 pu, .int .i64 sn] 60) := ⟨_, rfl⟩
        have hb13 : Below w12.heap.size w12 w13 := by rw [hw13]; exact (by repeat (first | with_reducible exact Below.refl _ _ | with_reducible refine below_drewN ?_ _ | ((with_reducible refine Below.setCell ?_ ?hq _); case hq => (first | (simp; done) | (simp; omega))) | ((with_reducible refine Below.alloc ?_ ?hq _); case hq => (first | (simp; done) | (simp; omega)))))
        have t0 : (w13).cell? ⟨w12.heap.size, 0, none⟩ = some (.int .i64 rm) := by rw [hw13]; go_cell
        have t1 : (w13).cell? ⟨w12.heap.size, 1, none⟩ = some (.slice atl ks.length ct) := by rw [hw13]; go_cell
        have t2 : (w13).cell? ⟨w12.heap.size, 2, none⟩ = some (.int .i64 pu) := by rw [hw13]; go_cell
        have t3 : (w13).cell? ⟨w12.heap.size, 3, none⟩ = some (.int .i64 sn) := by rw [hw13]; go_cell
        have hs12 := hb12.size
        have hs13 := hb13.size
        have u0 : (w12).cell? ⟨w10.heap.size, 0, none⟩ = some (.int .i64 rm) := (hb12.cell (p := ⟨w10.heap.size, 0, none⟩) (hs11)).trans s0
        have u1 : (w12).cell? ⟨w10.heap.size, 1, none⟩ = some (.slice asl ks.length cs) := (hb12.cell (p := ⟨w10.heap.size, 1, none⟩) (hs11)).trans s1
        have u2 : (w12).cell? ⟨w10.heap.size, 2, none⟩ = some (.int .i64 pu) := (hb12.cell (p := ⟨w10.heap.size, 2, none⟩) (hs11)).trans s2
        have u3 : (w12).cell? ⟨w10.heap.size, 3, none⟩ = some (.int .i64 sn) := (hb12.cell (p := ⟨w10.heap.size, 3, none⟩) (hs11)).trans s3
        have hs14 : w10.heap.size < w12.heap.size := by omega
        have x0 : (w13).cell? ⟨w10.heap.size, 0, none⟩ = some (.int .i64 rm) := (hb13.cell (p := ⟨w10.heap.size, 0, none⟩) (hs14)).trans u0
        have x1 : (w13).cell? ⟨w10.heap.size, 1, none⟩ = some (.slice asl ks.length cs) := (hb13.cell (p := ⟨w10.heap.size, 1, none⟩) (hs14)).trans u1
        have x2 : (w13).cell? ⟨w10.heap.size, 2, none⟩ = some (.int .i64 pu) := (hb13.cell (p := ⟨w10.heap.size, 2, none⟩) (hs14)).trans u2
        have x3 : (w13).cell? ⟨w10.heap.size, 3, none⟩ = some (.int .i64 sn) := (hb13.cell (p := ⟨w10.heap.size, 3, none⟩) (hs14)).trans u3
        have HB13 : Hid (Below w1.heap.size w1 w13) := Lib.hid (HB12.out.trans (hb13.mono HB12.out.size))
        have HSAME := Lib.hid (same9_any rm pu sn (.slice asl ks.length cs) (.slice atl ks.length ct) zs ks w13 ((HBS.out.below hb12).below hb13) (hbt.below hb13) H1.out)
        have HW13 := Lib.hid hw13
        clear hbt hb12 hb13 hw13 s0 s1 s2 s3 u0 u1 u2 u3
        go_upto_region 13 with (fail)
        rw [← HW13.out]
        go_wp2_with fail
        refine HSAME.out.mono ?_
        rintro e w14 ⟨rfl, hb14⟩
        have HB14 : Hid (Below w1.heap.size w1 w14) := Lib.hid (HB13.out.trans (hb14.mono HB13.out.size))
        clear hb14 x0 x1 x2 x3 t0 t1 t2 t3
        go_upto_region 15 with (fail)
        have c0 := ((HC.out _ HB14.out).1).get (j := 0) rfl
        have c1 := ((HC.out _ HB14.out).1).get (j := 1) rfl
        have c2 := ((HC.out _ HB14.out).1).get (j := 2) rfl
        have c3 := ((HC.out _ HB14.out).1).get (j := 3) rfl
        simp only [Nat.add_zero, Nat.zero_add] at c0 c1 c2 c3
        have b0 := ((HC.out _ HB14.out).2.1).get (j := 0) rfl
        have b1 := ((HC.out _ HB14.out).2.1).get (j := 1) rfl
        simp only [Nat.add_zero, Nat.zero_add] at b0 b1
        by_cases hn : n < 1 ∨ 16 < n
        · go_wp2_with fail
          refine (HPB.out w14 HB14.out hn).mono ?_
          rintro e w15 ⟨rfl, hb15⟩
          clear c0 c1 c2 c3 b0 b1
          have HB15 : Hid (Below w1.heap.size w1 w15) := Lib.hid (HB14.out.trans (hb15.mono HB14.out.size))
          obtain ⟨w16, hw16⟩ : ∃ w16, w16 = w15.alloc (.cells #[.int .i64 0, .slice none 0 0, .int .i64 0, .int .i64 0] 60) := ⟨_, rfl⟩
          have hb16 : Below w15.heap.size w15 w16 := by rw [hw16]; exact (by repeat (first | with_reducible exact Below.refl _ _ | with_reducible refine below_drewN ?_ _ | ((with_reducible refine Below.setCell ?_ ?hq _); case hq => (first | (simp; done) | (simp; omega))) | ((with_reducible refine Below.alloc ?_ ?hq _); case hq => (first | (simp; done) | (simp; omega)))))
          have p0 : (w16).cell? ⟨w15.heap.size, 0, none⟩ = some (.int .i64 0) := by rw [hw16]; go_cell
          have p1 : (w16).cell? ⟨w15.heap.size, 1, none⟩ = some (.slice none 0 0) := by rw [hw16]; go_cell
          have p2 : (w16).cell? ⟨w15.heap.size, 2, none⟩ = some (.int .i64 0) := by rw [hw16]; go_cell
          have p3 : (w16).cell? ⟨w15.heap.size, 3, none⟩ = some (.int .i64 0) := by rw [hw16]; go_cell
          have HB16 : Hid (Below w1.heap.size w1 w16) := Lib.hid (HB15.out.trans (hb16.mono HB15.out.size))
          have HW16 := Lib.hid hw16
          clear hb15 hb16 hw16
          go_upto_region 16 with (fail)
          rw [← HW16.out]
          have b0 := ((HC.out _ HB16.out).2.1).get (j := 0) rfl
          have b1 := ((HC.out _ HB16.out).2.1).get (j := 1) rfl
          simp only [Nat.add_zero, Nat.zero_add] at b0 b1
          rcases hn with hn | hn
          · have k1 : (n : Int) < 1 := by omega
            go_wp2_with fail
            refine (HSM.out _ _).mono ?_
            rintro e w17 ⟨rfl, hb17⟩
            go_wp2_with fail
            go_ret
            have h17 := HB16.out.trans (hb17.mono HB16.out.size)
            exact ⟨rfl, HB1.out.trans (h17.mono (by omega))⟩
          · have k1 : ¬ (n : Int) < 1 := by omega
            have k2 : (16 : Int) < (n : Int) := by omega
            go_wp2_with fail
            refine (HSM.out _ _).mono ?_
            rintro e w17 ⟨rfl, hb17⟩
            go_wp2_with fail
            go_ret
            have h17 := HB16.out.trans (hb17.mono HB16.out.size)
            exact ⟨rfl, HB1.out.trans (h17.mono (by omega))⟩
        · obtain ⟨pl, hpl⟩ : ∃ pl, pl = putL rm l y := ⟨_, rfl⟩
          obtain ⟨pp, hpp⟩ : ∃ pp, pp = putP rm pu l y := ⟨_, rfl⟩
          rw [← hpl, ← hpp] at HPU HPU9
          have hpm : pl.length ≤ 4398046510977 := by
            have h1 := dq_len (placeI l y.pc) l
            rw [hpl]; unfold putL; split
            · simp; omega
            · simp; omega
          clear hpl hpp
          go_wp2_with fail
          refine (HPU.out w14 HB14.out (by omega) (by omega)).mono ?_
          rintro e w15 ⟨⟨vp, ps, rfl, hbp, hps⟩, hb15⟩
          clear c0 c1 c2 c3 b0 b1
          have hpl1 : ps.length = pl.length := by have := congrArg List.length hps; simpa using this
          obtain ⟨pa, pc, rfl, -⟩ := hbp.1.open (fun _ _ => rfl) (by omega)
          rw [hpl1] at hbp ⊢
          have HB15 : Hid (Below w1.heap.size w1 w15) := Lib.hid (HB14.out.trans (hb15.mono HB14.out.size))
          obtain ⟨w16, hw16⟩ : ∃ w16, w16 = w15.alloc (.cells #[.int .i64 rm, .slice pa pl.length pc, .int .i64 pp, .int .i64 st] 60) := ⟨_, rfl⟩
          have hb16 : Below w15.heap.size w15 w16 := by rw [hw16]; exact (by repeat (first | with_reducible exact Below.refl _ _ | with_reducible refine below_drewN ?_ _ | ((with_reducible refine Below.setCell ?_ ?hq _); case hq => (first | (simp; done) | (simp; omega))) | ((with_reducible refine Below.alloc ?_ ?hq _); case hq => (first | (simp; done) | (simp; omega)))))
          have hs16 : w15.heap.size < w16.heap.size := by rw [hw16]; simp
          have p0 : (w16).cell? ⟨w15.heap.size, 0, none⟩ = some (.int .i64 rm) := by rw [hw16]; go_cell
          have p1 : (w16).cell? ⟨w15.heap.size, 1, none⟩ = some (.slice pa pl.length pc) := by rw [hw16]; go_cell
          have p2 : (w16).cell? ⟨w15.heap.size, 2, none⟩ = some (.int .i64 pp) := by rw [hw16]; go_cell
          have p3 : (w16).cell? ⟨w15.heap.size, 3, none⟩ = some (.int .i64 st) := by rw [hw16]; go_cell
          have HB16 : Hid (Below w1.heap.size w1 w16) := Lib.hid (HB15.out.trans (hb16.mono HB15.out.size))
          have HBP := Lib.hid (hbp.below hb16)
          have HPS := Lib.hid hps
          have HPL1 := Lib.hid hpl1
          have HW16 := Lib.hid hw16
          have k1 : ¬ (n : Int) < 1 := by omega
          have k2 : ¬ (16 : Int) < (n : Int) := by omega
          clear hbp hb15 hb16 hw16 hps hpl1 hn
          go_upto_region 16 with (fail)
          rw [← HW16.out]
          have b0 := ((HC.out _ HB16.out).2.1).get (j := 0) rfl
          have b1 := ((HC.out _ HB16.out).2.1).get (j := 1) rfl
          simp only [Nat.add_zero, Nat.zero_add] at b0 b1
          go_upto_region 18 with (fail)
          have c0 := ((HC.out _ HB16.out).1).get (j := 0) rfl
          have c1 := ((HC.out _ HB16.out).1).get (j := 1) rfl
          have c2 := ((HC.out _ HB16.out).1).get (j := 2) rfl
          have c3 := ((HC.out _ HB16.out).1).get (j := 3) rfl
          simp only [Nat.add_zero, Nat.zero_add] at c0 c1 c2 c3
          go_wp2_with fail
          refine (HPU9.out w16 HB16.out).mono ?_
          rintro e w17 ⟨⟨vq, rfl, hbq⟩, hb17⟩
          clear c0 c1 c2 c3 b0 b1
          obtain ⟨qa, qc, rfl, -⟩ := hbq.1.open (fun _ _ => rfl) (by omega)
          have HB17 : Hid (Below w1.heap.size w1 w17) := Lib.hid (HB16.out.trans (hb17.mono HB16.out.size))
          obtain ⟨w18, hw18⟩ : ∃ w18, w18 = w17.alloc (.cells #[.int .i64 rm, .slice qa pl.length qc, .int .i64 pp, .int .i64 st] 60) := ⟨_, rfl⟩
          have hb18 : Below w17.heap.size w17 w18 := by rw [hw18]; exact (by repeat (first | with_reducible exact Below.refl _ _ | with_reducible refine below_drewN ?_ _ | ((with_reducible refine Below.setCell ?_ ?hq _); case hq => (first | (simp; done) | (simp; omega))) | ((with_reducible refine Below.alloc ?_ ?hq _); case hq => (first | (simp; done) | (simp; omega)))))
          have q0 : (w18).cell? ⟨w17.heap.size, 0, none⟩ = some (.int .i64 rm) := by rw [hw18]; go_cell
          have q1 : (w18).cell? ⟨w17.heap.size, 1, none⟩ = some (.slice qa pl.length qc) := by rw [hw18]; go_cell
          have q2 : (w18).cell? ⟨w17.heap.size, 2, none⟩ = some (.int .i64 pp) := by rw [hw18]; go_cell
          have q3 : (w18).cell? ⟨w17.heap.size, 3, none⟩ = some (.int .i64 st) := by rw [hw18]; go_cell
          have hs17 := hb17.size
          have hs18 : w15.heap.size < w17.heap.size := by omega
          have u0 : (w17).cell? ⟨w15.heap.size, 0, none⟩ = some (.int .i64 rm) := (hb17.cell (p := ⟨w15.heap.size, 0, none⟩) (hs16)).trans p0
          have u1 : (w17).cell? ⟨w15.heap.size, 1, none⟩ = some (.slice pa pl.length pc) := (hb17.cell (p := ⟨w15.heap.size, 1, none⟩) (hs16)).trans p1
          have u2 : (w17).cell? ⟨w15.heap.size, 2, none⟩ = some (.int .i64 pp) := (hb17.cell (p := ⟨w15.heap.size, 2, none⟩) (hs16)).trans p2
          have u3 : (w17).cell? ⟨w15.heap.size, 3, none⟩ = some (.int .i64 st) := (hb17.cell (p := ⟨w15.heap.size, 3, none⟩) (hs16)).trans p3
          have x0 : (w18).cell? ⟨w15.heap.size, 0, none⟩ = some (.int .i64 rm) := (hb18.cell (p := ⟨w15.heap.size, 0, none⟩) (hs18)).trans u0
          have x1 : (w18).cell? ⟨w15.heap.size, 1, none⟩ = some (.slice pa pl.length pc) := (hb18.cell (p := ⟨w15.heap.size, 1, none⟩) (hs18)).trans u1
          have x2 : (w18).cell? ⟨w15.heap.size, 2, none⟩ = some (.int .i64 pp) := (hb18.cell (p := ⟨w15.heap.size, 2, none⟩) (hs18)).trans u2
          have x3 : (w18).cell? ⟨w15.heap.size, 3, none⟩ = some (.int .i64 st) := (hb18.cell (p := ⟨w15.heap.size, 3, none⟩) (hs18)).trans u3
          have HB18 : Hid (Below w1.heap.size w1 w18) := Lib.hid (HB17.out.trans (hb18.mono HB17.out.size))
          have HSAME2 := Lib.hid (same9_any rm pp st (.slice pa pl.length pc) (.slice qa pl.length qc) ps pl w18 ((HBP.out.below hb17).below hb18) (hbq.below hb18) HPS.out)
          have HW18 := Lib.hid hw18
          clear hbq hb17 hb18 hw18 p0 p1 p2 p3 u0 u1 u2 u3
          go_upto_region 19 with (fail)
          rw [← HW18.out]
          go_wp2_with fail
          refine HSAME2.out.mono ?_
          rintro e w19 ⟨rfl, hb19⟩
          go_wp2_with fail
          go_ret
          have h19 := HB18.out.trans (hb19.mono HB18.out.size)
          exact ⟨rfl, HB1.out.trans (h19.mono (by omega))⟩
open RowB in
set_option maxRecDepth 100000 in
set_option maxHeartbeats 1600000 in
theorem lifted (os : Os) (started : os.Started) (H : Type) (enc : TypeId × Value → H) :
    ReturnsInHanded {} Try.checked os 12 .any (Rows.cacheDoesSpec.pre6 enc Try.prog Try.f12 Rows.cacheDoesRow.domain false) (Rows.cacheDoesSpec.post enc Try.prog Try.f12 false true false false) := by
  refine RowB.law_lifted (C := Try.checked) (tb := 4) (by kernel_rfl) started (by kernel_rfl) (by kernel_rfl)
    (ChangeSpec.witness6 (enc := enc) (C := Try.checked) false ⟨#[], #[.int .i64 0, .agg #[.int .i64 0, .slice none 0 0, .int .i64 0, .int .i64 0], .agg #[.int .u32 0, .slice none 0 0], .int .u32 0, .agg #[.int .u32 0, .int .u32 0]], []⟩ 8 (by kernel_rfl) (by kernel_rfl) (by kernel_rfl) (by kernel_rfl))
    rfl (fun ds h => by match ds, h with | [_, _, _, _, _], _ => rfl) (by kernel_rfl) (by kernel_rfl) (by kernel_rfl) (of_decide_eq_true (by kernel_rfl)) ?_
  intro W base args ds ps hval hA _ hz
  have hp : (Try.f12).params.toList = [3, 60, 63, 33, 65] := by kernel_rfl
  rw [hp] at hA hz
  obtain ⟨v0, vs0, d0, ds0, p0, q0, hargs, rfl, rfl, h0, r0⟩ := ChangeShapes.trodAll_cons hA
  obtain ⟨v1, vs1, d1, ds1, p1, q1, rfl, rfl, rfl, h1, r1⟩ := ChangeShapes.trodAll_cons r0
  obtain ⟨v2, vs2, d2, ds2, p2, q2, rfl, rfl, rfl, h2, r2⟩ := ChangeShapes.trodAll_cons r1
  obtain ⟨v3, vs3, d3, ds3, p3, q3, rfl, rfl, rfl, h3, r3⟩ := ChangeShapes.trodAll_cons r2
  obtain ⟨v4, vs4, d4, ds4, p4, q4, rfl, rfl, rfl, h4, r4⟩ := ChangeShapes.trodAll_cons r3
  obtain ⟨rfl, rfl, rfl⟩ := ChangeShapes.trodAll_nil r4
  obtain rfl : args = #[v0, v1, v2, v3, v4] := by cases args; simp_all
  obtain ⟨z0, y0⟩ := weights_cons hz
  obtain ⟨z1, y1⟩ := weights_cons y0
  obtain ⟨z2, y2⟩ := weights_cons y1
  obtain ⟨z3, y3⟩ := weights_cons y2
  obtain ⟨z4, y4⟩ := weights_cons y3
  have k0 := hval 0 3 v0 (by kernel_rfl) rfl
  have k1 := hval 1 60 v1 (by kernel_rfl) rfl
  have k2 := hval 2 63 v2 (by kernel_rfl) rfl
  have k3 := hval 3 33 v3 (by kernel_rfl) rfl
  have k4 := hval 4 65 v4 (by kernel_rfl) rfl
  obtain ⟨a, rfl, rfl, rfl, wa⟩ := ChangeShapes.open_int Try.underlying3 k0 h0
  obtain ⟨⟨rm, ⟨v, l⟩, pu, st⟩, rfl, hrm, ⟨hv, hvi, hl⟩, hpu, hst⟩ := opens_cache.arg Try.underlying60 k1 h1 z1
  obtain ⟨y, rfl, hy, -, -⟩ := opens_block.arg Try.underlying63 k2 h2 z2
  obtain ⟨p, rfl, rfl, rfl, wp⟩ := ChangeShapes.open_int Try.underlying33 k3 h3
  obtain ⟨⟨fr, tw⟩, rfl, hf, ht⟩ := opens_range.arg Try.underlying65 k4 h4 z4
  exact walk a rm v pu st l y p fr tw W (Fb.wf_i64 wa) hrm hpu hst hv (fun x hx => (hvi x hx).2.2) hl hy hf ht
/-- THE STATEMENT -/
theorem proved : Rows.CacheDoesSaid :=
  OpenClaim.holds_of_wide 12 Try.f12 rfl rfl rfl rfl rfl rfl rfl ⟨rfl, rfl, rfl, rfl, rfl⟩ rfl rfl rfl rfl rfl (by kernel_rfl) Try.func12 (by kernel_rfl)
    (of_decide_eq_true (by kernel_rfl)) (by unfold Func.isWrapper; first | (rw [if_pos (by decide +kernel)]; kernel_rfl) | (rw [if_neg (by decide +kernel)]; exact ⟨rfl, rfl⟩))
    (fun os started H enc _ => lifted os started H enc)
#print axioms proved
end Go.Proofs.Ytlfnddmncbkjaaa.CacheDoesLaw
