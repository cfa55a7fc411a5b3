import Derived.StillTailTactics
import Derived.Test.YtlfnddmncbkjaacZMB
import Derived.Test.YtlfnddmncbkjaacZGD
import Derived.Test.YtlfnddmncbkjaacZGJ
import Derived.Test.YtlfnddmncbkjaacZGL
set_option linter.unusedVariables false
set_option linter.unusedSimpArgs false
set_option maxRecDepth 100000
set_option maxHeartbeats 4000000
namespace Go.Proofs.Ytlfnddmncbkjaac.W
open Go.RowKit Fb
theorem run_any (vm0 vh0 vs : Value) (m : Mach) (wf : m.Wf) (l : List (Int × Int)) (w : World) (hm : MachAt w vm0 vh0 m) (hs : Picks w vs l) (hp : ∀ p ∈ l, i64ok p.1 ∧ i64ok p.2) :
    Calls Try.prog 10 #[.agg #[vm0, vh0], vs] w fun e w' => (∃ vm vh vo, e = .returned (.tuple #[.agg #[vm, vh, vo, .int .i64 (runM m l).steps], .int .i64 (wrong m l)]) ∧ ShownAt w' vm vh vo (runM m l)) ∧ Below w.heap.size w w' := by
  obtain ⟨aom, capm, rfl, hcm, hmm, _, _⟩ := hm.1.open
  obtain ⟨aoh, caph, rfl, hch, hmh, _, _⟩ := hm.2.open (fun h hh => hlist_length (wf.harts h hh)) (by omega)
  obtain ⟨aos, caps, rfl, hcs, hms, _, hos⟩ := hs.open (fun _ _ => rfl) (by omega)
  unfold maxLen at hmm hmh hms
  obtain ⟨w1, hw1⟩ : ∃ w1, w1 = (w.alloc (.cells #[.slice aom m.mem.length capm, .slice aoh m.harts.length caph] 25)).alloc (.cells #[.slice none 0 0, .slice none 0 0, .slice none 0 0, .int .i64 0] 29) := ⟨_, rfl⟩
  have hb1 : Below w.heap.size w w1 := by rw [hw1]; exact Fb.blw
  have hs1 : w1.heap.size = w.heap.size + 2 := by rw [hw1]; simp
  have c0 : w1.cell? ⟨w.heap.size, 0, none⟩ = some (.slice aom m.mem.length capm) := by rw [hw1]; go_cell
  have c1 : w1.cell? ⟨w.heap.size, 1, none⟩ = some (.slice aoh m.harts.length caph) := by rw [hw1]; go_cell
  have HZ : Hid (w1.heap[w.heap.size + 1]? = some (.cells #[.slice none 0 0, .slice none 0 0, .slice none 0 0, .int .i64 0] 29 (0, 0))) := Lib.hid (by
    have := heap_alloc_new (w.alloc (.cells #[.slice aom m.mem.length capm, .slice aoh m.harts.length caph] 25)) (.cells #[.slice none 0 0, .slice none 0 0, .slice none 0 0, .int .i64 0] 29)
    rw [World.size_alloc] at this
    rw [hw1]; exact this)
  have HM := Lib.hid (hm.below hb1)
  have HS := Lib.hid (hs.below hb1)
  have HOS := Lib.hid hos
  have HP := Lib.hid hp
  have HMAY := Lib.hid (machmay_any _ _ _ m wf l w1 (hm.below hb1) (hs.below hb1) hp)
  have HW1 := Lib.hid hw1
  clear hw1 hm hs hos hp
  by_cases hq : wrong m l = 0
  · have hr : runM m l = playM l (startM m) := if_pos hq
    have hpt := wrong_parts hq
    rw [hr]
    rw [hq] at HMAY ⊢
    have HBG := Lib.hid (fun W hW => begin_any (.slice aom m.mem.length capm) (.slice aoh m.harts.length caph) m wf W hW (by omega) (by omega) (by omega))
    have HG := Lib.hid (startM_good wf hq)
    obtain ⟨p1, p2, p3, p4, p5, p6⟩ := hpt
    have HP6 := Lib.hid p6
    obtain ⟨sF, hsF⟩ : ∃ s, s = playM l (startM m) := ⟨_, rfl⟩
    rw [← hsF]
    have HSF := Lib.hid hsF
    clear hq hr p4 p6 hsF
    go_enter Try.func10, Try.ntmps10
    go_upto_region 1 with (fail)
    rw [← HW1.out]
    go_wp2_with fail
    refine HMAY.out.mono ?_
    rintro e w2 ⟨rfl, hb2⟩
    have hs2 := hb2.size
    have l1 : w.heap.size < w1.heap.size := by omega
    have d0 := (hb2.cell (p := ⟨w.heap.size, 0, none⟩) l1).trans c0
    have d1 := (hb2.cell (p := ⟨w.heap.size, 1, none⟩) l1).trans c1
    have HZ2 := Lib.hid ((hb2.block (w.heap.size + 1) (by omega)).trans HZ.out)
    have HM2 := Lib.hid (HM.out.below hb2)
    have HS2 := Lib.hid (HS.out.below hb2)
    have HB2 := Lib.hid (hb1.trans (hb2.mono (by omega)))
    clear c0 c1 hb1 hb2 HM HS HZ HMAY
    go_wp2_with fail
    refine (HBG.out _ HM2.out).mono ?_
    rintro e w3 ⟨⟨bp, bh, hc, vm, rfl, hbd, hbh, hvm⟩, hb3⟩
    have hs3 := hb3.size
    have HZ3 := Lib.hid ((hb3.block (w.heap.size + 1) (by omega)).trans HZ2.out)
    have HS3 := Lib.hid (HS2.out.below hb3)
    have HB3 := Lib.hid (HB2.out.trans (hb3.mono (by omega)))
    have HVM := Lib.hid hvm
    have HBD := Lib.hid hbd
    clear d0 d1 hb3 hbd hvm HZ2 HS2 HM2 HB2
    go_wp2_with fail
    go_loopw [23] (fun i wr => ∃ n : Nat, i = .int .i64 n ∧ n ≤ l.length ∧ w3.heap.size ≤ wr.heap.size ∧ ∃ vo, Hid (Bd bp bh hc vm vo 58 wr (playM (l.take n) (startM m)) ∧ Below w.heap.size w wr ∧ wr.heap[w.heap.size + 1]? = some (.cells #[.slice none 0 0, .slice none 0 0, .slice none 0 0, .int .i64 0] 29 (0, 0)))) (fun i _ => l.length - (intOf i).toNat)
    case atStart => exact ⟨0, rfl, by omega, by omega, .slice none 0 0, Lib.hid ⟨HBD.out, HB3.out, HZ3.out⟩⟩
    case round =>
      obtain ⟨n, rfl, hn, hsz, vo, HR⟩ := hrel
      have HG0 : Hid ((playM (l.take n) (startM m)).Good) := Lib.hid (playM_good _ HG.out)
      have HL0 : Hid ((playM (l.take n) (startM m)).harts.length = m.harts.length) := Lib.hid (playM_len _ _)
      have HT0 : Hid ((playM (l.take n) (startM m)).steps ≤ 400 * n) := Lib.hid (by
        have := playM_steps (l.take n) (startM m) (fun p hp => (HP6.out p (List.mem_of_mem_take hp)).2.2.2)
        rw [List.length_take, Nat.min_eq_left hn] at this
        have e : (startM m).steps = 0 := rfl
        omega)
      by_cases hlt : n < l.length
      · obtain ⟨wo, rfl⟩ : ∃ wo : World, wo = wr := ⟨_, rfl⟩
        obtain ⟨b, off, rfl, hbl, hel⟩ := HOS.out (by intro e; rw [e] at hlt; simp at hlt)
        have hat := (hel n hlt).below HR.out.2.1
        have d0 := hat.get (j := 0) (v := .int .i64 l[n].1) rfl
        have d1 := hat.get (j := 1) (v := .int .i64 l[n].2) rfl
        simp only [Nat.add_zero] at d0
        have HNX : Hid (playM (l.take (n + 1)) (startM m) = pickM l[n].1.toNat l[n].2.toNat (playM (l.take n) (startM m))) := Lib.hid (by
          rw [List.take_succ_eq_append_getElem hlt, playM_append]; rfl)
        obtain ⟨q1, q2, q3, q4⟩ := HP6.out _ (List.getElem_mem hlt)
        obtain ⟨s0, hs0⟩ : ∃ s, s = playM (l.take n) (startM m) := ⟨_, rfl⟩
        obtain ⟨sn, hsn⟩ : ∃ s, s = playM (l.take (n + 1)) (startM m) := ⟨_, rfl⟩
        rw [← hs0] at HR HG0 HL0 HT0 HNX
        rw [← hsn] at HNX
        have HSN := Lib.hid hsn
        clear hel hat hs0 hsn
        obtain ⟨x, hx⟩ : ∃ x, x = l[n].1 := ⟨_, rfl⟩
        obtain ⟨y, hy⟩ : ∃ y, y = l[n].2 := ⟨_, rfl⟩
        rw [← hx] at d0 HNX q1 q2
        rw [← hy] at d1 HNX q3 q4
        clear hx hy
        obtain ⟨k, rfl⟩ := Int.eq_ofNat_of_zero_le q1
        obtain ⟨N, rfl⟩ := Int.eq_ofNat_of_zero_le q3
        rw [Int.toNat_natCast, Int.toNat_natCast] at HNX
        have hk : k < m.harts.length := by omega
        have hN : N ≤ 400 := by omega
        clear q1 q2 q3 q4
        obtain ⟨w4, hw4⟩ : ∃ w4, w4 = wo.alloc (.cells #[.int .i64 k, .int .i64 N] 37) := ⟨_, rfl⟩
        have hb4 : Below wo.heap.size wo w4 := by rw [hw4]; exact Fb.blw
        have hs4 : wo.heap.size + 1 ≤ w4.heap.size ∧ w4.heap.size ≤ wo.heap.size + 1 := by rw [hw4]; simp
        obtain ⟨hs4, hs4'⟩ := hs4
        have t0 : w4.cell? ⟨wo.heap.size, 0, none⟩ = some (.int .i64 k) := by rw [hw4]; go_cell
        have HT4 : Hid (w4.heap[wo.heap.size]? = some (.cells #[.int .i64 k, .int .i64 N] 37 (0, 0))) := Lib.hid (by rw [hw4]; exact heap_alloc_new _ _)
        have HBD4 := Lib.hid (HR.out.1.below hb4)
        have HB4 := Lib.hid (HR.out.2.1.trans (hb4.mono (by omega)))
        have HZ4 := Lib.hid ((hb4.block (w.heap.size + 1) (by omega)).trans HR.out.2.2)
        have HCO := Lib.hid (core_any k w4 HBD4.out (by rw [HL0.out]; exact hk) (by rw [HL0.out]; omega))
        have HBPO : Hid (bp < wo.heap.size) := Lib.hid HR.out.1.lt
        have HW4 := Lib.hid hw4
        clear hw4 hb4 HR
        go_upto_region 8 with (fail)
        rw [← HW4.out]
        go_wp2_with fail
        refine HCO.out.mono ?_
        rintro e w5 ⟨nd, rfl, hw5⟩
        have hwk := (HBD4.out.start (tC := 76) (k := k) HG0.out.wf (by rw [HL0.out]; exact hk)).drewN nd
        rw [← hw5] at hwk
        have hb5 : Below w4.heap.size w4 w5 := by rw [hw5]; exact below_drewN (Below.alloc (Below.refl _ _) (Nat.le_refl _) _) _
        have hs5 : w4.heap.size + 1 ≤ w5.heap.size := by rw [hw5]; show _ ≤ (World.alloc _ _).heap.size; simp
        have HWK := Lib.hid hwk
        have HT5 := Lib.hid ((hb5.block wo.heap.size (by omega)).trans HT4.out)
        have HZ5 := Lib.hid ((hb5.block (w.heap.size + 1) (by omega)).trans HZ4.out)
        have HB5 := Lib.hid (HB4.out.trans (hb5.mono (by omega)))
        clear t0 hw5 hwk hb5 HT4 HZ4 HB4 HCO HBD4
        go_wp2_with fail
        go_loopw [11] (fun i wx => ∃ j : Nat, i = .int .i64 j ∧ j ≤ N ∧ w5.heap.size ≤ wx.heap.size ∧ ∃ (s1 : St) (o : List Int) (fr tw : Int), Hid (Wk bp bh hc w4.heap.size k vm vo 58 s0.out o fr tw wx s1 ∧ s1.Good ∧ s1.out = s0.out ++ o ∧ s1.harts.length = m.harts.length ∧ s1.steps ≤ 400 * n + j ∧ pickM k N s0 = pickM k (N - j) s1 ∧ U32 fr ∧ U32 tw ∧ Below w.heap.size w wx ∧ wx.heap[w.heap.size + 1]? = some (.cells #[.slice none 0 0, .slice none 0 0, .slice none 0 0, .int .i64 0] 29 (0, 0)) ∧ wx.heap[wo.heap.size]? = some (.cells #[.int .i64 k, .int .i64 N] 37 (0, 0)))) (fun i _ => N - (intOf i).toNat)
        case atStart => exact ⟨0, rfl, by omega, by omega, s0, [], 0, 0, Lib.hid ⟨HWK.out, HG0.out, by simp, HL0.out, by have := HT0.out; omega, rfl, ⟨by decide, by decide⟩, ⟨by decide, by decide⟩, HB5.out, HZ5.out, HT5.out⟩⟩
        case round =>
          obtain ⟨j, rfl, hj, hsx, s1, o, fr, tw, HI⟩ := hrel
          obtain ⟨i1, i2, i3, i4, i5, i6, i7, i8, i9, i10, i11⟩ := HI.out
          have hp0 : wr.cell? ⟨w4.heap.size, 0, none⟩ = some (.pointer (some ⟨bh, k * 37, none⟩)) := i1.core.ptr
          have hg35 : wr.cell? ⟨bh, k * 37 + 35, none⟩ = some (.int .i64 (s1.hart k).state) := i1.core.hart.get (hlist_state (i2.wf.hart k))
          have t1 := cell_blk (o := 1) i11 rfl
          obtain ⟨st, hst⟩ : ∃ x, x = (s1.hart k).state := ⟨_, rfl⟩
          rw [← hst] at hg35
          have HST := Lib.hid hst
          clear hst
          have HBP := Lib.hid i1.core.lt
          by_cases hgo : j < N ∧ st = 0
          · obtain ⟨hjN, rfl⟩ := hgo
            have hc3 := i1.c3
            have hf3 := i1.frz 3
            obtain ⟨stp, hstp⟩ : ∃ x, x = s1.steps := ⟨_, rfl⟩
            have hsb : stp ≤ 130000 := by omega
            rw [← hstp] at hc3
            have HSP := Lib.hid hstp
            obtain ⟨w6, hw6⟩ : ∃ w6, w6 = wr.setCell ⟨bp, 3, none⟩ (.int .i64 ((stp : Int) + 1)) := ⟨_, rfl⟩
            have htk : Wk bp bh hc w4.heap.size k vm vo 58 s0.out o fr tw w6 { s1 with steps := stp + 1 } := by rw [hw6]; exact i1.tick (stp + 1)
            have hbk6 : ∀ g, g ≠ bp → w6.heap[g]? = wr.heap[g]? := fun g hg => by rw [hw6]; exact Below.heap_setCell _ _ _ _ (by show g ≠ bp; exact hg)
            have hs6 : w6.heap.size = wr.heap.size := by rw [hw6]; simp
            have HW6 := Lib.hid hw6
            clear hw6 hstp
            go_upto_region 13 with (fail)
            rw [← HW6.out]
            obtain ⟨d0, hd0⟩ : ∃ d, d = goS (⟨s1.hart k, s1.mem, [], 0, 0⟩ : CoreD) := ⟨_, rfl⟩
            have hwd : d0.Wf := by rw [hd0]; exact goS_wf (i2.wf.core k) (by simp)
            have hol : o.length ≤ 200000 := by
              have h1 := i2.ol
              rw [i3, List.length_append] at h1
              omega
            have hwc : (⟨s1.hart k, s1.mem, o, fr, tw⟩ : CoreD).Wf := ⟨i2.wf.hart k, i2.wf.mem, fun x hx => i2.wf.out x (by rw [i3]; simp [hx]), i7, i8, (by show s1.mem.length ≤ _; have := i2.wf.mlen; omega), (by show o.length ≤ _; omega)⟩
            have HGO := Lib.hid (go_any (d := ⟨s1.hart k, s1.mem, o, fr, tw⟩) htk.core hwc (by show o.length < _; omega))
            rw [goS_out, show goS (⟨(⟨s1.hart k, s1.mem, o, fr, tw⟩ : CoreD).h, (⟨s1.hart k, s1.mem, o, fr, tw⟩ : CoreD).m, [], 0, 0⟩ : CoreD) = d0 from hd0.symm] at HGO
            have HGM : Hid (goM k s1 = ⟨loseTo k d0.fr d0.tw s1.harts.length (s1.harts.set k d0.h), d0.m, s1.out ++ d0.out, s1.steps + 1⟩) := Lib.hid (by rw [hd0]; rfl)
            have HTK := Lib.hid htk
            have HWD := Lib.hid hwd
            clear hp0 hg35 t1 hc3 hf3 htk hwd hwc hd0
            go_wp2_with fail
            refine HGO.out.mono ?_
            rintro e w7 ⟨rfl, hc7, hg7⟩
            have HWK7 : Hid (Wk bp bh hc w4.heap.size k vm vo 58 s0.out (o ++ d0.out) d0.fr d0.tw w7 ⟨s1.harts.set k d0.h, d0.m, s1.out, stp + 1⟩) := Lib.hid (HTK.out.go (d := d0.pre o) ⟨i2.wf.harts, i2.wf.mem, i2.wf.mlen, i2.wf.out⟩ HWD.out.h hc7 hg7)
            have hs7 := hg7.size
            have hb1' := i1.b1
            have hvm1 := i1.mlt
            have hbpo := HBPO.out
            have t7 : w7.heap[wo.heap.size]? = some (.cells #[.int .i64 k, .int .i64 N] 37 (0, 0)) := (hg7.block wo.heap.size (by omega) (by omega) (fun e => by have := hvm1 _ e; omega) (.inl (by omega))).trans ((hbk6 _ (by omega)).trans i11)
            have z7 := (hg7.block (w.heap.size + 1) (by omega) (by omega) (fun e => by have := HVM.out _ e; omega) (.inl (by omega))).trans ((hbk6 _ (by omega)).trans i10)
            have HB7 : Hid (Below w.heap.size w w7) := Lib.hid ((i9.setCell (p := ⟨bp, 3, none⟩) (by show w.heap.size ≤ bp; omega) (.int .i64 ((stp : Int) + 1))).trans (by rw [← HW6.out]; exact hg7.below (by omega) (by omega) (fun k e => by have := HVM.out _ e; omega) (by omega)))
            have HSO := Lib.hid (fun W (hW : Wk bp bh hc w4.heap.size k vm vo 58 s0.out (o ++ d0.out) d0.fr d0.tw W ⟨s1.harts.set k d0.h, d0.m, s1.out, stp + 1⟩) => stored_any k d0.fr d0.tw (s1.harts.set k d0.h) W hW.c1 hW.harts hW.core.hfz (by have := hW.b1; omega) (fun x hx => by
              rcases List.mem_or_eq_of_mem_set hx with hx | rfl
              · exact i2.wf.harts _ hx
              · exact HWD.out.h) (by rw [List.length_set]; omega) hW.hcap HWD.out.fr HWD.out.tw)
            have x0 := cell_blk (o := 0) t7 rfl
            have c3 : w7.cell? ⟨w4.heap.size, 3, none⟩ = some (.int .u32 d0.fr) := HWK7.out.core.fr
            have c4 : w7.cell? ⟨w4.heap.size, 4, none⟩ = some (.int .u32 d0.tw) := HWK7.out.core.tw
            have HT7 := Lib.hid t7
            have HZ7 := Lib.hid z7
            clear t7 z7 hc7 hg7 hvm1 HGO HTK hbk6
            go_upto_region 14 with (fail)
            go_still_tail 11, (by kernel_rfl)
            change wpList _ _ _ _ _ w7.drew
            go_wp2_with fail
            refine (HSO.out _ (HWK7.out.below ?hB)).mono ?_
            case hB => (repeat (first | with_reducible exact Below.refl _ _ | with_reducible refine below_drewN ?_ _ | with_reducible refine Below.drew ?_))
            rintro e w8 ⟨rfl, hat8, hg8⟩
            have hs8 : w7.heap.size ≤ w8.heap.size := hg8.size
            go_wp2_with fail
            go_roundw
            case rel =>
              have hwk := (HWK7.out.below (w' := w7.drew) (Below.drew (Below.refl _ _)))
              have hwf : ∀ x ∈ s1.harts.set k d0.h, x.Wf := fun x hx => by
                rcases List.mem_or_eq_of_mem_set hx with hx | rfl
                · exact i2.wf.harts _ hx
                · exact HWD.out.h
              have hkl : k < (s1.harts.set k d0.h).length := by rw [List.length_set]; omega
              have hw8 := hwk.lost (hs := loseTo k d0.fr d0.tw (s1.harts.set k d0.h).length (s1.harts.set k d0.h)) (mem_loseTo (P := Hart.Wf) hwf (fun _ => lose_wf)) (loseTo_len _ _ _ _ _) (fun h' => by
                rw [loseTo_get _ _ _ _ _ _ hkl, if_neg (by omega)]; exact (St.hart_at (s := ⟨s1.harts.set k d0.h, d0.m, s1.out, stp + 1⟩) hkl).symm) hat8 hg8
              refine ⟨j + 1, by simp, by omega, by omega, goM k s1, o ++ d0.out, d0.fr, d0.tw, Lib.hid ⟨?_, goM_good i2 HST.out.symm, ?_, by rw [goM_len]; exact i4, ?_, ?_, HWD.out.fr, HWD.out.tw, HB7.out.drew.trans (hg8.below (B := w.heap.size) (by show w.heap.size ≤ w7.heap.size; omega) (fun p hp e => by omega)), ?_, ?_⟩⟩
              · rw [HGM.out, ← HSP.out]
                have := hw8.any (s1.out ++ d0.out)
                rw [List.length_set] at this
                exact this
              · rw [HGM.out]
                show s1.out ++ d0.out = _
                rw [i3, List.append_assoc]
              · rw [HGM.out]
                show s1.steps + 1 ≤ _
                have := HSP.out
                omega
              · rw [i6, show N - j = (N - (j + 1)) + 1 by omega]
                conv => lhs; unfold pickM
                rw [if_pos HST.out.symm]
              · exact (hg8.block (w.heap.size + 1) (by show _ < w7.heap.size; omega) (fun o e => by have e2 : w.heap.size + 1 = bh := e; omega)).trans HZ7.out
              · exact (hg8.block wo.heap.size (by show _ < w7.heap.size; omega) (fun o e => by have e2 : wo.heap.size = bh := e; omega)).trans HT7.out
            case measure => simp [intOf]; omega
          · have hfin : pickM k N s0 = s1 := by
              by_cases e : j < N
              · have hst : ¬ (s1.hart k).state = 0 := fun e2 => hgo ⟨e, by rw [HST.out]; exact e2⟩
                rw [i6, pickM_stop hst]
              · obtain rfl : j = N := by omega
                rw [i6, Nat.sub_self]; rfl
            have hs1 : playM (l.take (n + 1)) (startM m) = s1 := by rw [← HSN.out, HNX.out, hfin]
            obtain ⟨v2, cv2, own2⟩ := i1.core.row
            have cv2' : wr.cell? ⟨w4.heap.size, 2, none⟩ = some v2 := cv2
            have c2 := i1.c2
            have f2 := i1.frz 2
            have hol : s0.out.length + o.length ≤ 200000 := by
              have h1 := i2.ol
              rw [i3, List.length_append] at h1
              omega
            have hex : j = N ∨ (j < N ∧ ¬ st = 0) := by
              by_cases e : j < N
              · exact .inr ⟨e, fun e2 => hgo ⟨e, e2⟩⟩
              · exact .inl (by omega)
            have HI3 := Lib.hid i3
            have HWK := Lib.hid i1
            have HS1 := Lib.hid hs1
            have HB9 := Lib.hid i9
            have HZ9 := Lib.hid i10
            have hlo : ∀ g, vo.ownBlock = some g → bp + 1 ≤ g := fun g e => (i1.own.lt g e).1
            have HLO := Lib.hid hlo
            have hfar : Hid (some bp ≠ vo.ownBlock) := Lib.hid (fun e => by have := hlo bp e.symm; omega)
            have hbw : Hid (bp < wr.heap.size) := Lib.hid (Nat.lt_trans i1.b2 i1.clt)
            have HOL := Lib.hid hol
            have hb1' := i1.b1
            have HLE : Hid (w.heap.size ≤ bp ∧ w.heap.size + 1 < bp) := Lib.hid (by omega)
            have HSZ : Hid (w3.heap.size ≤ wr.heap.size) := Lib.hid (by omega)
            have HSL := Lib.hid ((owns_sl own2).below (Below.drew (Below.refl _ _)))
            clear cv2 own2 hfin i1 i2 i3 i4 i5 i6 i7 i8 i9 i10 i11 hs1 hlo hol HNX HSN HI hgo
            obtain ⟨i0, hi, hz0, hz1, hz2⟩ := info_parts info_u32r
            rcases hex with rfl | ⟨hjN, hst0⟩
            all_goals
              go_upto_region 15 with (fail)
              go_region_law (
                refine step_append_any (by rfl) _ _ _ (by rfl) (bp + 1) 58 i0 _ 1 4 Try.underlying27 hi hz0 hz1 hz2 rfl (by omega) vo s0.out.length _ (by rfl) HWK.out.own.drew
                    v2 o.length (o.map (Value.int .u32)) (by rfl) HSL.out (by intro u hu; obtain ⟨y, _, rfl⟩ := List.mem_map.1 hu; rfl) (by have := HOL.out; omega) (by have := HOL.out; unfold maxLen; omega) (by have := hbw.out; show _ ≤ wr.heap.size; omega) ?_
                intro v3 w9 hown3 hgrow
                obtain ⟨ao3, cp3, rfl⟩ := owns_slice hown3
                have e0 : w9.cell? ⟨bp, 2, none⟩ = some vo := (hgrow.cell_far _ hbw.out hfar.out).trans c2
                have e1 : w9.frozen? ⟨bp, 2, none⟩ = false := (hgrow.frozen_far _ hbw.out hfar.out).trans f2
                have HO3 := Lib.hid hown3
                have HG3 := Lib.hid hgrow
                clear hown3 hgrow)
            all_goals
              go_wp2_with fail
              go_roundw
              case rel =>
                obtain ⟨f1, f2, f3, f4⟩ := HWK.out.finish (z := w.heap.size + 1) HI3.out HB9.out HLE.out.1 HLE.out.2 HO3.out HG3.out
                exact ⟨n + 1, by simp, hlt, Nat.le_trans HSZ.out f4, _, Lib.hid ⟨by rw [HS1.out]; exact f1, f2, f3.trans HZ9.out⟩⟩
              case measure => simp [intOf]; omega
      · obtain rfl : n = l.length := by omega
        rw [List.take_length] at HR HG0
        rw [← HSF.out] at HR HG0
        clear HSF HG HBD HT0 HL0
        have c0 := HR.out.1.c0
        have c1 := HR.out.1.c1
        have c2 := HR.out.1.c2
        have c3 := HR.out.1.c3
        have hZ := HR.out.2.2
        have ht : wr.there (w.heap.size + 1) 0 4 := there_blk hZ rfl
        obtain ⟨ax, cx, rfl⟩ : ∃ ao c, vm = .slice ao sF.mem.length c := by obtain ⟨ao, c, e, _⟩ := HR.out.1.bytes.open; exact ⟨ao, c, e⟩
        obtain ⟨ay, cy, rfl⟩ := owns_slice HR.out.1.own
        have hsz5 : (Try.prog.info? 29).map (·.size) = some (#[.slice ax sF.mem.length cx, .slice (some ⟨bh, 0, none⟩) sF.harts.length hc, .slice ay sF.out.length cy, .int .i64 sF.steps] : Array Value).size := by show _ = some 4; kernel_rfl
        have hall : (#[.slice ax sF.mem.length cx, .slice (some ⟨bh, 0, none⟩) sF.harts.length hc, .slice ay sF.out.length cy, .int .i64 sF.steps] : Array Value).all (·.oneCell') = true := by simp [Value.oneCell']
        have ht5 : ∀ W : World, W.there (w.heap.size + 1) 0 4 → W.there (w.heap.size + 1) 0 (#[.slice ax sF.mem.length cx, .slice (some ⟨bh, 0, none⟩) sF.harts.length hc, .slice ay sF.out.length cy, .int .i64 sF.steps] : Array Value).size := fun _ h => h
        have hld := load_setCells (P := Try.prog) (cs := #[.slice ax sF.mem.length cx, .slice (some ⟨bh, 0, none⟩) sF.harts.length hc, .slice ay sF.out.length cy, .int .i64 sF.steps]) ht Try.underlying29 rfl hsz5
        have hb5 : bh < bp := HR.out.1.b1
        clear hZ HZ3
        go_wp2_with (first | (refine wpList_store_mid rfl 29 _ _ rfl (w.heap.size + 1) 0 #[.slice ax sF.mem.length cx, .slice (some ⟨bh, 0, none⟩) sF.harts.length hc, .slice ay sF.out.length cy, .int .i64 sF.steps] rfl rfl (ht5 _ ht) hsz5 hall ?_))
        refine bodyPost_ret (results_c1t (by rfl) _ (by rfl) hld) rfl ⟨⟨_, _, _, rfl, ?_⟩, below_setCells (by omega) _ _ _ HR.out.2.1⟩
        refine (HR.out.1.shown HG0.out.wf.harts).setCells (fun k e => ?_) (fun k e => ?_) (fun k e => ?_) _ _
        · have := HVM.out k e; omega
        · have e2 : bh = k := by cases e; rfl
          omega
        · have := HR.out.1.own.lt k e; omega
  · have hr : runM m l = ⟨[], [], [], 0⟩ := if_neg hq
    rw [hr]
    obtain ⟨q, hqq⟩ : ∃ q, q = wrong m l := ⟨_, rfl⟩
    rw [← hqq] at HMAY hq ⊢
    clear hqq hr
    go_enter Try.func10, Try.ntmps10
    go_upto_region 1 with (fail)
    rw [← HW1.out]
    go_wp2_with fail
    refine HMAY.out.mono ?_
    rintro e w2 ⟨rfl, hb2⟩
    have hs2 := hb2.size
    have hZ := (hb2.block (w.heap.size + 1) (by omega)).trans HZ.out
    have HB2 := Lib.hid (hb1.trans (hb2.mono (by omega)))
    clear HMAY HM HS c0 c1 hb1 hb2
    have ht : w2.there (w.heap.size + 1) 0 4 := there_blk hZ rfl
    have hsz5 : (Try.prog.info? 29).map (·.size) = some (#[.slice none 0 0, .slice none 0 0, .slice none 0 0, .int .i64 0] : Array Value).size := by show _ = some 4; kernel_rfl
    have hall : (#[.slice none 0 0, .slice none 0 0, .slice none 0 0, .int .i64 0] : Array Value).all (·.oneCell') = true := by simp [Value.oneCell']
    have ht5 : ∀ W : World, W.there (w.heap.size + 1) 0 4 → W.there (w.heap.size + 1) 0 (#[.slice none 0 0, .slice none 0 0, .slice none 0 0, .int .i64 0] : Array Value).size := fun _ h => h
    have hld := load_setCells (P := Try.prog) (cs := #[.slice none 0 0, .slice none 0 0, .slice none 0 0, .int .i64 0]) ht Try.underlying29 rfl hsz5
    clear hZ HZ
    go_wp2_with (first | (refine wpList_store_mid rfl 29 _ _ rfl (w.heap.size + 1) 0 #[.slice none 0 0, .slice none 0 0, .slice none 0 0, .int .i64 0] rfl rfl (ht5 _ ht) hsz5 hall ?_))
    refine bodyPost_ret (results_c1t (by rfl) _ (by rfl) hld) rfl ⟨⟨_, _, _, rfl, shown_nil _ _⟩, below_setCells (by omega) _ _ _ HB2.out⟩
end Go.Proofs.Ytlfnddmncbkjaac.W
