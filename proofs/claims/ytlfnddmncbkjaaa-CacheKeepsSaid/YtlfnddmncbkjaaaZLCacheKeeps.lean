/- CacheKeeps: a cache of a room has no more than the room, no two of one place, and what is found is the last that was put there. No condition. -/
import Derived.Deep.CutRange
import Derived.StillTailTactics
import Derived.Test.YtlfnddmncbkjaaaZWCache1
import Derived.Test.YtlfnddmncbkjaaaZWCache2
import Derived.Test.YtlfnddmncbkjaaaZWCache6
import Derived.Test.YtlfnddmncbkjaaaZWCache8
import Derived.Test.YtlfnddmncbkjaaaZWRef9a
import Derived.Test.YtlfnddmncbkjaaaZWSame6
import Derived.Test.YtlfnddmncbkjaaaZMB
import Derived.Test.YtlfnddmncbkjaaaZOpenCache
import Derived.Test.YtlfnddmncbkjaaaZMA
namespace Go.Proofs.Ytlfnddmncbkjaaa.CacheKeepsLaw
set_option linter.unusedVariables false
set_option linter.unusedSimpArgs false
open Go.RowKit Fb W
set_option maxRecDepth 100000 in
set_option maxHeartbeats 800000 in
theorem walk_bad (room : Int) (v vr : Value) (w : World) (hroom : i64ok room) (hbad : room < 0 ∨ 64 < room) :
    Calls Try.prog 13 #[.int .i64 room, v, vr] w fun e w' => e = .returned (.bool true) ∧ Below w.heap.size w w' := by
  have HNEW := Lib.hid (cnew_any room w hroom)
  rw [if_pos hbad, if_pos hbad] at HNEW
  go_enter Try.func13, Try.ntmps13
  go_wp2_with fail
  refine HNEW.out.mono ?_
  rintro e w2 ⟨rfl, hb2⟩
  have hfin : Below w.heap.size w (w2.alloc (.cells #[.int .i64 0, .slice none 0 0, .int .i64 0, .int .i64 0] 60)) := hb2.alloc hb2.size _
  rcases hbad with h | h
  · go_wp2_with fail
    go_ret
    exact ⟨rfl, hfin⟩
  · have h2 : ¬ room < 0 := by omega
    go_wp2_with fail
    go_ret
    exact ⟨rfl, hfin⟩
theorem find_any (room : Int) (v : Value) (pu st : Int) (l : List BlkD) (p : Int) (w : World) (hv : Blks w v l) (hins : ∀ x ∈ l, x.ins.length ≤ 3518437208883) (F : Int × List InsD) (fb : Bool)
    (hF : (fb = true ∧ ∃ h : placeN l p < l.length, F = l[placeN l p].abs) ∨ (fb = false ∧ ¬ placeN l p < l.length ∧ F = (0, []))) :
    Calls Try.prog 33 #[.agg #[.int .i64 room, v, .int .i64 pu, .int .i64 st], .int .u32 p] w fun e w' => (∃ z : BlkD, e = .returned (.tuple #[.agg #[.int .u32 z.pc, z.vi], .bool fb]) ∧ BlkOk w' z ∧ z.abs = F) ∧ Below w.heap.size w w' := by
  rcases hF with ⟨rfl, h, rfl⟩ | ⟨rfl, h, rfl⟩
  · refine (cfind_yes room v pu st l p w hv hins h).mono ?_
    rintro e w' ⟨⟨y, rfl, h1, h2, h3⟩, hb⟩
    exact ⟨⟨y, rfl, h3, by unfold BlkD.abs; rw [h1, h2]⟩, hb⟩
  · refine (cfind_no room v pu st l p w hv hins h).mono ?_
    rintro e w' ⟨rfl, hb⟩
    exact ⟨⟨⟨0, .slice none 0 0, []⟩, rfl, ⟨Sl.nil _ _, by show U32 0; exact ⟨by omega, by omega⟩⟩, rfl⟩, hb⟩
/-- what a put answers -/
def PutR (B : Nat) (w' : World) (room st : Int) (zs : List BlkD) (y : BlkD) (r : Int) (v' : Value) (s er : Int) : Prop :=
  ∃ zs' : List BlkD, Blks w' v' zs' ∧ Far B v' zs' ∧ zs'.length ≤ 64 ∧ (((y.ins.length < 1 ∨ 16 < y.ins.length) ∧ er = 2) ∨ (1 ≤ y.ins.length ∧ y.ins.length ≤ 16 ∧ er = 0 ∧ r = room ∧ s = st ∧ zs'.map BlkD.abs = (putL room zs y).map BlkD.abs))
theorem put_both (room : Int) (v : Value) (pu st : Int) (zs : List BlkD) (y : BlkD) (w : World) (h0 : 0 ≤ room) (h64 : room ≤ 64) (hz : (zs.length : Int) ≤ room) (hd : (pcs zs).Nodup) (hv : Blks w v zs) (hy : BlkOk w y) (hi : ∀ x ∈ zs, x.ins.length ≤ 16) :
    Calls Try.prog 38 #[.agg #[.int .i64 room, v, .int .i64 pu, .int .i64 st], .agg #[.int .u32 y.pc, y.vi]] w fun e w' => (∃ r v' p s er, e = .returned (.tuple #[.agg #[.int .i64 r, v', .int .i64 p, .int .i64 s], .int .i64 er]) ∧ PutR w.heap.size w' room st zs y r v' s er) ∧ Below w.heap.size w w' := by
  by_cases hbad : y.ins.length < 1 ∨ 16 < y.ins.length
  · refine (cput_bad room v pu st zs y w hv hy hbad (by omega)).mono ?_
    rintro e w' ⟨rfl, hb⟩
    exact ⟨⟨0, _, 0, 0, 2, rfl, [], ⟨Sl.nil _ _, by simp⟩, ⟨(by intro q e; cases e), by simp⟩, by simp, .inl ⟨hbad, rfl⟩⟩, hb⟩
  · refine (cput_far room v pu st zs y w hv hy (by omega) (by omega) (fun x hx => by have := hi x hx; omega) (by omega)).mono ?_
    rintro e w' ⟨⟨v', zs', rfl, h1, h2, h3⟩, hb⟩
    have hk := putL_keeps h0 hz hd hi (y := y) (by omega)
    exact ⟨⟨_, _, _, _, _, rfl, zs', h1, h3, by have := len_abs h2; have := hk.2.1; omega, .inr ⟨by omega, by omega, rfl, rfl, rfl, h2⟩⟩, hb⟩
set_option maxRecDepth 100000 in
set_option maxHeartbeats 8000000 in
theorem walk (room : Int) (v vr : Value) (l : List BlkD) (rs : List (Int × Int)) (w : World) (h0 : 0 ≤ room) (h64 : room ≤ 64) (hv : Blks w v l) (hi : ∀ x ∈ l, x.ins.length ≤ 3518437208883) (hr : Sl w vr 2 rs.length (rs.flatMap rlist)) (hrw : ∀ r ∈ rs, U32 r.1 ∧ U32 r.2) :
    Calls Try.prog 13 #[.int .i64 room, v, vr] w fun e w' => e = .returned (.bool true) ∧ Below w.heap.size w w' := by
  have hbad : ¬ (room < 0 ∨ 64 < room) := by omega
  obtain ⟨al, cl, rfl, hc1, hm1, -, hol⟩ := hv.1.open (fun _ _ => rfl) (by omega)
  obtain ⟨ar, cr, rfl, hc2, hm2, -, hor⟩ := hr.open (fun _ _ => rfl) (by omega)
  unfold maxLen at hm1 hm2
  have HNEW := Lib.hid (cnew_any room w (by unfold i64ok; omega))
  rw [if_neg hbad, if_neg hbad] at HNEW
  have HOL := Lib.hid hol
  have HOR := Lib.hid hor
  have HV := Lib.hid hv
  have HI := Lib.hid hi
  have HRW := Lib.hid hrw
  clear hol hor hv hi hr hrw hbad
  go_enter Try.func13, Try.ntmps13
  go_wp2_with fail
  refine HNEW.out.mono ?_
  rintro e w2 ⟨rfl, hb2⟩
  obtain ⟨w3, hw3⟩ : ∃ w3, w3 = w2.alloc (.cells #[.int .i64 room, .slice none 0 0, .int .i64 0, .int .i64 0] 60) := ⟨_, rfl⟩
  have hb23 : Below w2.heap.size w2 w3 := by rw [hw3]; exact (by repeat (first | with_reducible exact Below.refl _ _ | with_reducible refine below_drewN ?_ _ | ((with_reducible refine Below.setCell ?_ ?hq _); case hq => (first | (simp; done) | (simp; omega))) | ((with_reducible refine Below.alloc ?_ ?hq _); case hq => (first | (simp; done) | (simp; omega)))))
  have hs3 : w2.heap.size < w3.heap.size := by rw [hw3]; simp
  have c0 : (w3).cell? ⟨w2.heap.size, 0, none⟩ = some (.int .i64 room) := by rw [hw3]; go_cell
  have c1 : (w3).cell? ⟨w2.heap.size, 1, none⟩ = some (.slice none 0 0) := by rw [hw3]; go_cell
  have c2 : (w3).cell? ⟨w2.heap.size, 2, none⟩ = some (.int .i64 0) := by rw [hw3]; go_cell
  have c3 : (w3).cell? ⟨w2.heap.size, 3, none⟩ = some (.int .i64 0) := by rw [hw3]; go_cell
  have hfz : ∀ o, w3.frozen? ⟨w2.heap.size, o, none⟩ = false := fun o => by rw [hw3]; unfold World.frozen?; rw [heap_alloc_new]; simp
  have HCK : Hid (CK w2.heap.size room w w3 (.slice none 0 0) [] 0 0) := Lib.hid ⟨at_cons c0 (at_cons c1 (at_cons c2 (at_cons c3 at_nil))), hfz, ⟨Sl.nil _ _, by simp⟩, by simp, by simpa using h0, by simp [pcs], hb2.trans (hb23.mono hb2.size), hb2.size, hs3⟩
  have HW3 := Lib.hid hw3
  have hs2 := hb2.size
  clear hb2 hb23 hw3 hfz HNEW
  go_upto_if 36 with (fail)
  rw [← HW3.out]
  obtain ⟨rb, hrb⟩ : ∃ rb : Bool, rb = decide (0 < room) := ⟨_, rfl⟩
  rw [← hrb]
  have HRB := Lib.hid hrb
  clear hrb
  go_cut [] from 37 to 48 (fun wx => Hid (Below w3.heap.size w3 wx))
  case first =>
    cases rb with
    | true =>
      have hr1 : 0 < room := by have := HRB.out; simpa using this
      obtain ⟨w4, hw4⟩ : ∃ w4, w4 = w3.alloc (.cells #[.int .i64 58, .int .i64 0, .int .i64 0, .int .i64 0, .int .i32 0] 54) := ⟨_, rfl⟩
      have hb34 : Below w3.heap.size w3 w4 := by rw [hw4]; exact (by repeat (first | with_reducible exact Below.refl _ _ | with_reducible refine below_drewN ?_ _ | ((with_reducible refine Below.setCell ?_ ?hq _); case hq => (first | (simp; done) | (simp; omega))) | ((with_reducible refine Below.alloc ?_ ?hq _); case hq => (first | (simp; done) | (simp; omega)))))
      have hy : BlkOk w4 ⟨0, .slice (some ⟨w3.heap.size, 0, none⟩) 1 1, [⟨58, 0, 0, 0, 0⟩]⟩ := ⟨by rw [hw4]; exact ⟨rfl, _, 1, rfl, Nat.le_refl _, by decide, (by intro e; cases e), fun x hx _ => by cases hx; exact ⟨rfl, at_alloc w3 [.int .i64 58, .int .i64 0, .int .i64 0, .int .i64 0, .int .i32 0] 54 (0, 0)⟩⟩, by show U32 0; exact ⟨by omega, by omega⟩⟩
      have HP := Lib.hid (cput_far room (.slice none 0 0) 0 0 [] ⟨0, .slice (some ⟨w3.heap.size, 0, none⟩) 1 1, [⟨58, 0, 0, 0, 0⟩]⟩ w4 ⟨Sl.nil _ _, by simp⟩ hy (by simp) (by simp) (by simp) (by simp))
      have HL1 : Hid (∀ zs : List BlkD, zs.map BlkD.abs = (putL room [] ⟨0, .slice (some ⟨w3.heap.size, 0, none⟩) 1 1, [⟨58, 0, 0, 0, 0⟩]⟩).map BlkD.abs → zs.length = 1) := Lib.hid (fun zs h => by
        have := len_abs h
        unfold putL at this
        rw [dq_nil, if_neg (by simp; omega)] at this
        simpa using this)
      have HW4 := Lib.hid hw4
      have hs4 := hb34.size
      have HB34 := Lib.hid hb34
      obtain ⟨pv, hpv⟩ : ∃ pv, pv = putP room 0 [] ⟨0, .slice (some ⟨w3.heap.size, 0, none⟩) 1 1, [⟨58, 0, 0, 0, 0⟩]⟩ := ⟨_, rfl⟩
      rw [← hpv] at HP
      clear hw4 hb34 hy hpv
      go_wp2_with fail
      rw [← HW4.out]
      refine HP.out.mono ?_
      rintro e w5 ⟨⟨v5, zs, rfl, hbz, hza, -⟩, hb5⟩
      have hz1 := HL1.out zs hza
      obtain ⟨a5, c5, rfl, -⟩ := hbz.1.open (fun _ _ => rfl) (by omega)
      rw [hz1]
      obtain ⟨w6, hw6⟩ : ∃ w6, w6 = w5.alloc (.cells #[.int .i64 room, .slice a5 1 c5, .int .i64 pv, .int .i64 0] 60) := ⟨_, rfl⟩
      have hb56 : Below w5.heap.size w5 w6 := by rw [hw6]; exact (by repeat (first | with_reducible exact Below.refl _ _ | with_reducible refine below_drewN ?_ _ | ((with_reducible refine Below.setCell ?_ ?hq _); case hq => (first | (simp; done) | (simp; omega))) | ((with_reducible refine Below.alloc ?_ ?hq _); case hq => (first | (simp; done) | (simp; omega)))))
      have d0 : (w6).cell? ⟨w5.heap.size, 0, none⟩ = some (.int .i64 room) := by rw [hw6]; go_cell
      have d1 : (w6).cell? ⟨w5.heap.size, 1, none⟩ = some (.slice a5 1 c5) := by rw [hw6]; go_cell
      have d2 : (w6).cell? ⟨w5.heap.size, 2, none⟩ = some (.int .i64 pv) := by rw [hw6]; go_cell
      have d3 : (w6).cell? ⟨w5.heap.size, 3, none⟩ = some (.int .i64 0) := by rw [hw6]; go_cell
      have HB6 : Hid (Below w3.heap.size w3 w6) := Lib.hid (HB34.out.trans ((hb5.mono (by omega)).trans (hb56.mono (by have := hb5.size; omega))))
      have HW6 := Lib.hid hw6
      clear hw6 hb56 hb5 hbz hza hz1
      go_upto_region 6 with (fail)
      rw [← HW6.out]
      go_wp2_with fail
      go_meet
      case rel => exact HB6
    | false =>
      go_wp2_with fail
      go_meet
      case rel => exact Lib.hid (Below.refl _ _)
  case rest =>
    obtain ⟨w7, hw7⟩ : ∃ x, x = wc := ⟨_, rfl⟩
    rw [← hw7] at hcut ⊢
    have HCK7 := Lib.hid (HCK.out.below hcut.out)
    obtain ⟨cb, hcb⟩ : ∃ cb, cb = w2.heap.size := ⟨_, rfl⟩
    rw [← hcb] at HCK7 ⊢
    clear hw7 hcut c0 c1 c2 c3 HW3 HCK hs3 hs2 hcb
    go_wp2_with fail
    go_loopw [11] (fun i wr => ∃ k : Nat, i = .int .i64 k ∧ k ≤ l.length ∧ ∃ v zs pu st, Hid (CK cb room w wr v zs pu st)) (fun i _ => l.length - (intOf i).toNat)
    case atStart => exact ⟨0, rfl, by omega, _, _, _, _, HCK7⟩
    case round =>
      obtain ⟨k, rfl, hk, v, zs, pu, st, HK⟩ := hrel
      obtain ⟨wo, rfl⟩ : ∃ wo : World, wo = wr := ⟨_, rfl⟩
      by_cases hlt : k < l.length
      · by_cases h200 : k < 200
        · have i1 : (k : Int) < (l.length : Int) := by omega
          have i2 : (k : Int) < 200 := by omega
          have i0 : (0 : Int) ≤ (k : Int) := by omega
          clear HCK7
          go_upto_if 62 with (fail)
          go_cut [] from 62 to 85 (fun wx => ∃ v zs pu st, Hid (CK cb room w wx v zs pu st))
          case first =>
            by_cases hk2 : k < rs.length
            · have j1 : (k : Int) < (rs.length : Int) := by omega
              obtain ⟨b, off, rfl, hbl, hel⟩ := HOR.out (by intro e; rw [e] at hk2; simp at hk2)
              obtain ⟨fr, tw, hft⟩ : ∃ fr tw, rs[k] = (fr, tw) := ⟨_, _, rfl⟩
              have hfu := HRW.out rs[k] (List.getElem_mem hk2)
              have hra := hel k hk2
              rw [hft] at hfu hra
              obtain ⟨av, cv, rfl, -⟩ := HK.out.blks.1.open (fun _ _ => rfl) (by omega)
              obtain ⟨w8, hw8⟩ : ∃ w8, w8 = wo.drew := ⟨_, rfl⟩
              have hb8 : Below wo.heap.size wo w8 := by rw [hw8]; exact Below.drew (Below.refl _ _)
              have HK8 := Lib.hid (HK.out.below hb8)
              have HRA : Hid (∀ W, Below w.heap.size w W → At W b (off + k * 2) [.int .u32 fr, .int .u32 tw]) := Lib.hid (fun W hW => At.of_lt hra hW hbl)
              have HFU := Lib.hid hfu
              have hlz : (zs.length : Int) ≤ 64 := by have := HK.out.len; omega
              have c0 := HK8.out.at_.get (j := 0) rfl
              have c1 := HK8.out.at_.get (j := 1) rfl
              have c2 := HK8.out.at_.get (j := 2) rfl
              have c3 := HK8.out.at_.get (j := 3) rfl
              have r0 := (HRA.out _ HK8.out.bel).get (j := 0) rfl
              have r1 := (HRA.out _ HK8.out.bel).get (j := 1) rfl
              simp only [Nat.add_zero, Nat.zero_add] at c0 c1 c2 c3 r0 r1
              have HST := Lib.hid (cstale_far room (.slice av zs.length cv) pu st zs fr tw w8 HK8.out.blks (fun x hx => by have := HK8.out.ins x hx; omega) (by omega) hfu.1 hfu.2)
              have HW8 := Lib.hid hw8
              have HFT := Lib.hid hft
              clear hra hfu hel hw8 hft HK hb8
              go_upto_region 12 with (fail)
              refine wp_region_still_tail 5 (by kernel_rfl) (by kernel_rfl) ?_
              simp only [List.take_succ_cons, List.take_zero, List.drop_succ_cons, List.drop_zero]
              change wpStill _ _ wo.drew (fun a' => wpList _ _ _ _ a' wo.drew) _ _
              rw [← HW8.out]
              iterate 5 still_step
              refine wpStill_nil ?_
              go_wp2_with fail
              refine HST.out.mono ?_
              rintro e w9 ⟨⟨v', zs', rfl, hbz, hza, hfar⟩, hb9⟩
              obtain ⟨a9, c9, rfl, -⟩ := hbz.1.open (fun _ _ => rfl) (by omega)
              obtain ⟨sn, hsn⟩ : ∃ sn, sn = wrap64 (st + ((zs.length : Int) - (zs'.length : Int))) := ⟨_, rfl⟩
              rw [← hsn]
              have hlz' : zs'.length ≤ zs.length := by have := len_abs hza; have h2 := List.length_filter_le (fun x => !staleB fr tw x) zs; omega
              have HCN := Lib.hid (CK.next (pu' := pu) (st' := sn) HK8.out hb9 hbz hfar (ins_abs hza (fun x hx => HK8.out.ins x (List.mem_filter.1 hx).1)) (by have := HK8.out.len; omega) (by rw [pcs_abs hza]; exact pcs_sub List.filter_sublist HK8.out.dis))
              have HNS : Hid (∀ x ∈ zs', hasB x.pc x.ins.length fr tw = false) := Lib.hid (fun x hx => by
                obtain ⟨y, hy, e⟩ := List.mem_map.1 (show x.abs ∈ (zs.filter (fun x => !staleB fr tw x)).map BlkD.abs by rw [← hza]; exact List.mem_map_of_mem hx)
                have e1 : y.pc = x.pc := congrArg Prod.fst e
                have e2 : y.ins = x.ins := congrArg Prod.snd e
                have h3 := (List.mem_filter.1 hy).2
                rw [← e1, ← e2]
                simpa [staleB] using h3)
              have hth : w9.there cb 0 (#[.int .i64 room, .slice a9 zs'.length c9, .int .i64 pu, .int .i64 sn] : Array Value).size := (HK8.out.below hb9).there
              have hsz : (Try.prog.info? 60).map (·.size) = some (#[.int .i64 room, .slice a9 zs'.length c9, .int .i64 pu, .int .i64 sn] : Array Value).size := by show _ = some 4; kernel_rfl
              have hall : (#[.int .i64 room, .slice a9 zs'.length c9, .int .i64 pu, .int .i64 sn] : Array Value).all (·.oneCell') = true := by simp [Value.oneCell']
              obtain ⟨w10, hw10⟩ : ∃ w10, w10 = w9.setCells cb 0 (#[.int .i64 room, .slice a9 zs'.length c9, .int .i64 pu, .int .i64 sn] : Array Value).toList := ⟨_, rfl⟩
              have HCN10 : Hid (CK cb room w w10 (.slice a9 zs'.length c9) zs' pu sn) := Lib.hid (by rw [hw10]; exact HCN.out)
              have HW10 := Lib.hid hw10
              have hlz2 : zs'.length ≤ 64 := by omega
              clear hw10 HCN hbz hza hfar hb9 hsn c0 c1 c2 c3 r0 r1 HST HK8 HW8 hlz' hlz
              go_upto_region 13 with (first | (refine wpList_store_mid rfl 60 _ _ rfl cb 0 #[.int .i64 room, .slice a9 zs'.length c9, .int .i64 pu, .int .i64 sn] rfl rfl hth hsz hall ?_))
              rw [← HW10.out]
              clear hth hsz hall HW10
              go_wp2_with fail
              go_loopw [12] (fun i wx => ∃ j : Nat, i = .int .i64 j ∧ j ≤ zs'.length ∧ Hid (Below w10.heap.size w10 wx)) (fun i _ => zs'.length - (intOf i).toNat)
              case atStart => exact ⟨0, rfl, by omega, Lib.hid (Below.refl _ _)⟩
              case round =>
                obtain ⟨j, rfl, hj, HBX⟩ := hrel
                have HKX := Lib.hid (HCN10.out.below HBX.out)
                have hcl : cb < wr.heap.size := HKX.out.hi
                have c1 := HKX.out.at_.get (j := 1) rfl
                simp only [Nat.add_zero, Nat.zero_add] at c1
                by_cases hjl : j < zs'.length
                · obtain ⟨b2, off2, e, hbl2, hel2⟩ : ∃ b2 off2, a9 = some ⟨b2, off2, none⟩ ∧ b2 < w10.heap.size ∧ ∀ i (hi : i < zs'.length), At w10 b2 (off2 + i * 2) (blist zs'[i]) := by
                    obtain ⟨a', c', e, -, -, -, ho⟩ := HCN10.out.blks.1.open (fun _ _ => rfl) (by omega)
                    cases e
                    exact ho (by intro e; rw [e] at hjl; simp at hjl)
                  subst e
                  obtain ⟨x, hx⟩ : ∃ x, x = zs'[j] := ⟨_, rfl⟩
                  have hxm : x ∈ zs' := by rw [hx]; exact List.getElem_mem hjl
                  have HX : Hid (∀ W, Below wr.heap.size wr W → At W b2 (off2 + j * 2) [.int .u32 x.pc, x.vi]) := Lib.hid (fun W hW => by have := hel2 j hjl; rw [← hx] at this; exact At.below this (HBX.out.trans (hW.mono HBX.out.size)))
                  have HHA : Hid (∀ W, Below wr.heap.size wr W → Calls Try.prog 40 #[.agg #[.int .u32 x.pc, x.vi], .agg #[.int .u32 fr, .int .u32 tw]] W fun e w' => e = .returned (.bool false) ∧ Below W.heap.size W w') := Lib.hid (fun W hW => by
                    have := has9_any x fr tw W (((HCN10.out.blks.2 x hxm).below HBX.out).below hW) (by have := HCN10.out.ins x hxm; omega) HFU.out.1 HFU.out.2
                    rw [HNS.out x hxm] at this
                    exact this)
                  have HRX : Hid (∀ W, Below wr.heap.size wr W → At W b (off + k * 2) [.int .u32 fr, .int .u32 tw]) := Lib.hid (fun W hW => HRA.out W (HKX.out.bel.trans (hW.mono HKX.out.bel.size)))
                  have HC1 : Hid (∀ W, Below wr.heap.size wr W → W.cell? ⟨cb, 1, none⟩ = some (.slice (some ⟨b2, off2, none⟩) zs'.length c9)) := Lib.hid (fun W hW => (hW.cell (p := ⟨cb, 1, none⟩) hcl).trans c1)
                  have q1 : (j : Int) < (zs'.length : Int) := by omega
                  have q0 : (0 : Int) ≤ (j : Int) := by omega
                  clear hel2 hx
                  go_upto_region 16 with (fail)
                  refine region_quiet_lit (fun W => Below wr.heap.size wr W) (by kernel_rfl) (by kernel_rfl) (Below.drew (Below.refl _ _)) ?_
                  go_big_quiet_step ((intro _; rfl))
                  refine wpQuiet_cell_g (by rfl) 58 _ rfl ⟨cb, 1, none⟩ rfl (.slice (some ⟨b2, off2, none⟩) zs'.length c9) (fun W hW => by have hc := HC1.out W hW; go_simp) ?_
                  simp only [Act.put, List.setIfInBounds_toArray, List.set_cons_zero, List.set_cons_succ]
                  iterate 2 go_big_quiet_step ((intro _; rfl))
                  refine wpQuiet_load_g (by rfl) 63 _ rfl b2 (off2 + j * 2) rfl #[.int .u32 x.pc, x.vi] _ (fun W hW => HX.out W hW) Try.underlying63 rfl (by show _ = some 2; kernel_rfl) ?_
                  simp only [Act.put, List.setIfInBounds_toArray, List.set_cons_zero, List.set_cons_succ]
                  iterate 3 go_big_quiet_step ((intro _; rfl))
                  refine wpQuiet_load_g (by rfl) 65 _ rfl b (off + k * 2) rfl #[.int .u32 fr, .int .u32 tw] _ (fun W hW => HRX.out W hW) Try.underlying65 rfl (by show _ = some 2; kernel_rfl) ?_
                  simp only [Act.put, List.setIfInBounds_toArray, List.set_cons_zero, List.set_cons_succ]
                  go_big_quiet_step ((intro hC; exact (HHA.out _ hC).mono (fun e w'' ⟨he, hb⟩ => ⟨he, hC.trans (hb.mono hC.size)⟩)))
                  refine wpQuiet_nil ?_
                  intro w11 hb11
                  have hbx2 := HBX.out.size
                  go_wp2_with fail
                  go_roundw
                  case rel => exact ⟨j + 1, by simp, by omega, Lib.hid (HBX.out.trans (hb11.mono hbx2))⟩
                  case measure => simp [intOf]; omega
                · have q1 : ¬ (j : Int) < (zs'.length : Int) := by omega
                  go_wp2_with fail
                  go_meet
                  case rel => exact ⟨_, _, _, _, HKX⟩
            · have j1 : ¬ (k : Int) < (rs.length : Int) := by omega
              go_wp2_with fail
              go_meet
              case rel => exact ⟨_, _, _, _, HK⟩
          case rest =>
            clear HK
            obtain ⟨v, zs, pu, st, HK⟩ := hcut
            obtain ⟨b, off, rfl, hbl, hel⟩ := HOL.out (by intro e; rw [e] at hlt; simp at hlt)
            obtain ⟨y, hy⟩ : ∃ y, y = l[k] := ⟨_, rfl⟩
            have hym : y ∈ l := by rw [hy]; exact List.getElem_mem hlt
            have HYO : Hid (∀ W, Below w.heap.size w W → BlkOk W y) := Lib.hid (fun W hW => (HV.out.2 y hym).below hW)
            obtain ⟨ay, cy, hyv, -⟩ := (HV.out.2 y hym).at_.open (fun _ _ => rfl) (by omega)
            have hyi := HI.out y hym
            have HYA : Hid (∀ W, Below w.heap.size w W → At W b (off + k * 2) [.int .u32 y.pc, .slice ay y.ins.length cy]) := Lib.hid (fun W hW => by have := hel k hlt; rw [← hy] at this; unfold blist at this; rw [hyv] at this; exact At.of_lt this hW hbl)
            have HYV := Lib.hid hyv
            obtain ⟨av, cv, rfl, -⟩ := HK.out.blks.1.open (fun _ _ => rfl) (by omega)
            obtain ⟨w8, hw8⟩ : ∃ w8, w8 = wc.drew := ⟨_, rfl⟩
            have hb8 : Below wc.heap.size wc w8 := by rw [hw8]; exact Below.drew (Below.refl _ _)
            have HK8 := Lib.hid (HK.out.below hb8)
            have hlz : (zs.length : Int) ≤ 64 := by have := HK.out.len; omega
            have c0 := HK8.out.at_.get (j := 0) rfl
            have c1 := HK8.out.at_.get (j := 1) rfl
            have c2 := HK8.out.at_.get (j := 2) rfl
            have c3 := HK8.out.at_.get (j := 3) rfl
            have r0 := (HYA.out _ HK8.out.bel).get (j := 0) rfl
            have r1 := (HYA.out _ HK8.out.bel).get (j := 1) rfl
            simp only [Nat.add_zero, Nat.zero_add] at c0 c1 c2 c3 r0 r1
            obtain ⟨n, hn⟩ : ∃ n, n = y.ins.length := ⟨_, rfl⟩
            have HPUT := Lib.hid (fun W (hW : Below w8.heap.size w8 W) => put_both room (.slice av zs.length cv) pu st zs y W h0 h64 HK8.out.len HK8.out.dis (HK8.out.below hW).blks (HYO.out _ (HK8.out.below hW).bel) HK8.out.ins)
            rw [HYV.out, ← hn] at HPUT
            rw [← hn] at HYA r1
            have HCC : Hid (∀ W, Below w8.heap.size w8 W → W.cell? ⟨cb, 0, none⟩ = some (.int .i64 room) ∧ W.cell? ⟨cb, 1, none⟩ = some (.slice av zs.length cv) ∧ W.cell? ⟨cb, 2, none⟩ = some (.int .i64 pu) ∧ W.cell? ⟨cb, 3, none⟩ = some (.int .i64 st) ∧ W.cell? ⟨b, off + k * 2, none⟩ = some (.int .u32 y.pc) ∧ W.cell? ⟨b, off + k * 2 + 1, none⟩ = some (.slice ay n cy)) := Lib.hid (fun W hW => ⟨(hW.cell (p := ⟨cb, 0, none⟩) HK8.out.hi).trans c0, (hW.cell (p := ⟨cb, 1, none⟩) HK8.out.hi).trans c1, (hW.cell (p := ⟨cb, 2, none⟩) HK8.out.hi).trans c2, (hW.cell (p := ⟨cb, 3, none⟩) HK8.out.hi).trans c3, (hW.cell (lt_of_cell r0)).trans r0, (hW.cell (lt_of_cell r1)).trans r1⟩)
            have HW8 := Lib.hid hw8
            have HN := Lib.hid hn
            have HK := Lib.hid (And.intro HK.out hb8)
            clear hel hy hym hyv hw8 hb8 hn hyi c0 c1 c2 c3 r0 r1
            have hbr : Below w8.heap.size w8 w8 := Below.refl _ _
            go_upto_region 18 with (fail)
            go_cut [13, 14] from 86 to 94 (fun t13 t14 wx => ∃ (bd : Nat) (er r p s : Int) (v' : Value), t13 = .pointer (some ⟨bd, 0, none⟩) ∧ t14 = .int .i64 er ∧ Hid (Below w8.heap.size w8 wx ∧ At wx bd 0 [.int .i64 r, v', .int .i64 p, .int .i64 s] ∧ PutR w8.heap.size wx room st zs y r v' s er))
            case first =>
              refine wp_region_held_drew (S := fun W => W.cell? ⟨cb, 0, none⟩ = some (.int .i64 room) ∧ W.cell? ⟨cb, 1, none⟩ = some (.slice av zs.length cv) ∧ W.cell? ⟨cb, 2, none⟩ = some (.int .i64 pu) ∧ W.cell? ⟨cb, 3, none⟩ = some (.int .i64 st) ∧ W.cell? ⟨b, off + k * 2, none⟩ = some (.int .u32 y.pc) ∧ W.cell? ⟨b, off + k * 2 + 1, none⟩ = some (.slice ay n cy)) (by kernel_rfl) (by rw [← HW8.out]; exact HCC.out _ hbr) (fun hHeld => ?_)
              rw [← HW8.out] at hHeld ⊢
              refine wpAnyH_take (i := 0) (v := .agg #[.int .i64 room, .slice av zs.length cv, .int .i64 pu, .int .i64 st]) rfl (by kernel_rfl) (by kernel_rfl) (by kernel_rfl) (fun _ _ _ h => h) (Or.inl ⟨by rfl, ?_⟩) (by assumption) ?_
              · (try simp only [List.getElem_toArray, List.getElem_cons_zero, List.getElem_cons_succ]); intro w hSw; (try dsimp only at hSw); go_simp
              try simp only [List.getElem_toArray, List.getElem_cons_zero, List.getElem_cons_succ, Act.put, List.setIfInBounds_toArray, List.set_cons_zero, List.set_cons_succ]
              refine wpAnyH_take (i := 1) (v := .slice (some ⟨b, off, none⟩) l.length cl) rfl (by kernel_rfl) (by kernel_rfl) (by kernel_rfl) (fun _ _ _ h => h) (Or.inl ⟨by rfl, ?_⟩) (by assumption) ?_
              · (try simp only [List.getElem_toArray, List.getElem_cons_zero, List.getElem_cons_succ]); intro w hSw; (try dsimp only at hSw); go_simp
              try simp only [List.getElem_toArray, List.getElem_cons_zero, List.getElem_cons_succ, Act.put, List.setIfInBounds_toArray, List.set_cons_zero, List.set_cons_succ]
              refine wpAnyH_take (i := 2) (v := .int .i64 k) rfl (by kernel_rfl) (by kernel_rfl) (by kernel_rfl) (fun _ _ _ h => h) (Or.inl ⟨by rfl, ?_⟩) (by assumption) ?_
              · (try simp only [List.getElem_toArray, List.getElem_cons_zero, List.getElem_cons_succ]); intro w hSw; (try dsimp only at hSw); go_simp
              try simp only [List.getElem_toArray, List.getElem_cons_zero, List.getElem_cons_succ, Act.put, List.setIfInBounds_toArray, List.set_cons_zero, List.set_cons_succ]
              refine wpAnyH_take (i := 3) (v := .pointer (some ⟨b, off + k * 2, none⟩)) rfl (by kernel_rfl) (by kernel_rfl) (by kernel_rfl) (fun _ _ _ h => h) (Or.inl ⟨by rfl, ?_⟩) (by assumption) ?_
              · (try simp only [List.getElem_toArray, List.getElem_cons_zero, List.getElem_cons_succ]); intro w hSw; (try dsimp only at hSw); go_simp
              try simp only [List.getElem_toArray, List.getElem_cons_zero, List.getElem_cons_succ, Act.put, List.setIfInBounds_toArray, List.set_cons_zero, List.set_cons_succ]
              refine wpAnyH_take (i := 4) (v := .agg #[.int .u32 y.pc, .slice ay n cy]) rfl (by kernel_rfl) (by kernel_rfl) (by kernel_rfl) (fun _ _ _ h => h) (Or.inl ⟨by rfl, ?_⟩) (by assumption) ?_
              · (try simp only [List.getElem_toArray, List.getElem_cons_zero, List.getElem_cons_succ]); intro w hSw; (try dsimp only at hSw); go_simp
              try simp only [List.getElem_toArray, List.getElem_cons_zero, List.getElem_cons_succ, Act.put, List.setIfInBounds_toArray, List.set_cons_zero, List.set_cons_succ]
              refine wpAnyH_ready (rs := [5, 9]) (by kernel_rfl) (by simp) ?_
              refine AllReadyH.cons rfl (fun K hK => ?_) (AllReadyH.cons rfl (fun K hK => ?_) AllReadyH.nil)
              · go_simp
                refine (HPUT.out _ hbr).mono ?_
                rintro e w9 ⟨⟨r', v', p', s', er, rfl, zs', hbz, hfar, hl64, hcase⟩, hb9⟩
                obtain ⟨a9, c9, rfl, -⟩ := hbz.1.open (fun _ _ => rfl) (by omega)
                refine hK.out _ _ (HCC.out _ hb9) (fun hHeld2 => ?_)
                clear hK K
                refine wpAnyH_take (i := 6) (v := .tuple #[.agg #[.int .i64 r', .slice a9 zs'.length c9, .int .i64 p', .int .i64 s'], .int .i64 er]) rfl (by kernel_rfl) (by kernel_rfl) (by kernel_rfl) (fun _ _ _ h => h) (Or.inl ⟨by rfl, ?_⟩) (by assumption) ?_
                · (try simp only [List.getElem_toArray, List.getElem_cons_zero, List.getElem_cons_succ]); intro w hSw; (try dsimp only at hSw); go_simp
                try simp only [List.getElem_toArray, List.getElem_cons_zero, List.getElem_cons_succ, Act.put, List.setIfInBounds_toArray, List.set_cons_zero, List.set_cons_succ]
                refine wpAnyH_take (i := 7) (v := .agg #[.int .i64 r', .slice a9 zs'.length c9, .int .i64 p', .int .i64 s']) rfl (by kernel_rfl) (by kernel_rfl) (by kernel_rfl) (fun _ _ _ h => h) (Or.inl ⟨by rfl, ?_⟩) (by assumption) ?_
                · (try simp only [List.getElem_toArray, List.getElem_cons_zero, List.getElem_cons_succ]); intro w hSw; (try dsimp only at hSw); go_simp
                try simp only [List.getElem_toArray, List.getElem_cons_zero, List.getElem_cons_succ, Act.put, List.setIfInBounds_toArray, List.set_cons_zero, List.set_cons_succ]
                refine wpAnyH_take (i := 8) (v := .int .i64 er) rfl (by kernel_rfl) (by kernel_rfl) (by kernel_rfl) (fun _ _ _ h => h) (Or.inl ⟨by rfl, ?_⟩) (by assumption) ?_
                · (try simp only [List.getElem_toArray, List.getElem_cons_zero, List.getElem_cons_succ]); intro w hSw; (try dsimp only at hSw); go_simp
                try simp only [List.getElem_toArray, List.getElem_cons_zero, List.getElem_cons_succ, Act.put, List.setIfInBounds_toArray, List.set_cons_zero, List.set_cons_succ]
                refine wpAnyH_ready (rs := [9]) (by kernel_rfl) (by simp) ?_
                refine AllReadyH.cons rfl (fun K hK => ?_) AllReadyH.nil
                go_simp
                obtain ⟨w10, hw10⟩ : ∃ w10, w10 = w9.alloc (.cells #[.int .i64 0, .slice none 0 0, .int .i64 0, .int .i64 0] 60) := ⟨_, rfl⟩
                rw [← hw10]
                have hb10 : Below w9.heap.size w9 w10 := by rw [hw10]; exact (by repeat (first | with_reducible exact Below.refl _ _ | with_reducible refine below_drewN ?_ _ | ((with_reducible refine Below.setCell ?_ ?hq _); case hq => (first | (simp; done) | (simp; omega))) | ((with_reducible refine Below.alloc ?_ ?hq _); case hq => (first | (simp; done) | (simp; omega)))))
                have hth : w10.there w9.heap.size 0 4 := by rw [hw10]; exact there_blk (heap_alloc_new _ _) rfl
                refine hK.out _ _ (HCC.out _ (hb9.trans (hb10.mono hb9.size))) (fun hHeld3 => ?_)
                clear hK K
                obtain ⟨w11, hw11⟩ : ∃ w11, w11 = w10.setCells w9.heap.size 0 (#[.int .i64 r', .slice a9 zs'.length c9, .int .i64 p', .int .i64 s'] : Array Value).toList := ⟨_, rfl⟩
                have hb911 : Below w9.heap.size w9 w11 := by rw [hw11]; exact below_setCells (Nat.le_refl _) _ _ _ hb10
                have hb11 : Below w8.heap.size w8 w11 := hb9.trans (hb911.mono hb9.size)
                have HREL : Hid (Below w8.heap.size w8 w11 ∧ At w11 w9.heap.size 0 [.int .i64 r', .slice a9 zs'.length c9, .int .i64 p', .int .i64 s'] ∧ PutR w8.heap.size w11 room st zs y r' (.slice a9 zs'.length c9) s' er) := Lib.hid ⟨hb11, by rw [hw11]; exact at_set_all hth, zs', hbz.below hb911, hfar, hl64, hcase⟩
                have HW11 := Lib.hid hw11
                clear hw10 hw11 hb10 hb911 hbz hfar hl64 hcase
                have hsz : (Try.prog.info? 60).map (·.size) = some (#[.int .i64 r', .slice a9 zs'.length c9, .int .i64 p', .int .i64 s'] : Array Value).size := by show _ = some 4; kernel_rfl
                have hall : (#[.int .i64 r', .slice a9 zs'.length c9, .int .i64 p', .int .i64 s'] : Array Value).all (·.oneCell') = true := by simp [Value.oneCell']
                refine wpAnyH_ready (rs := [10]) (by kernel_rfl) (by simp) ?_
                refine AllReadyH.cons rfl (fun K hK => ?_) AllReadyH.nil
                rw [if_pos (by rfl)]
                refine wp_store_mid 60 _ _ rfl w9.heap.size 0 #[.int .i64 r', .slice a9 zs'.length c9, .int .i64 p', .int .i64 s'] rfl rfl hth hsz hall ?_
                simp only [Act.put, List.setIfInBounds_toArray, List.set_cons_zero, List.set_cons_succ]
                rw [← HW11.out]
                refine hK.out _ _ (HCC.out _ hb11) (fun hHeld4 => ?_)
                clear hK K
                refine wpAnyH_ready (rs := [11]) (by kernel_rfl) (by simp) ?_
                refine AllReadyH.cons rfl (fun K hK => ?_) AllReadyH.nil
                go_simp
                refine hK.out _ _ (HCC.out _ hb11) (fun hHeld5 => ?_)
                clear hK K
                refine wpAnyH_done (by kernel_rfl) ?_ _
                clear hHeld hHeld2 hHeld3 hHeld4 hHeld5
                go_wp2_with fail
                go_meet
                case rel => exact ⟨_, er, r', p', s', _, rfl, rfl, HREL⟩
              · go_simp
                obtain ⟨w10, hw10⟩ : ∃ w10, w10 = w8.alloc (.cells #[.int .i64 0, .slice none 0 0, .int .i64 0, .int .i64 0] 60) := ⟨_, rfl⟩
                rw [← hw10]
                have hb10 : Below w8.heap.size w8 w10 := by rw [hw10]; exact (by repeat (first | with_reducible exact Below.refl _ _ | with_reducible refine below_drewN ?_ _ | ((with_reducible refine Below.setCell ?_ ?hq _); case hq => (first | (simp; done) | (simp; omega))) | ((with_reducible refine Below.alloc ?_ ?hq _); case hq => (first | (simp; done) | (simp; omega)))))
                have hs10 : w10.heap.size = w8.heap.size + 1 := by rw [hw10]; simp
                have hnew : w10.heap[w8.heap.size]? = some (.cells #[.int .i64 0, .slice none 0 0, .int .i64 0, .int .i64 0] 60 (0, 0)) := by rw [hw10]; exact heap_alloc_new _ _
                refine hK.out _ _ (HCC.out _ hb10) (fun hHeld2 => ?_)
                clear hK K hw10
                refine wpAnyH_ready (rs := [5]) (by kernel_rfl) (by simp) ?_
                refine AllReadyH.cons rfl (fun K hK => ?_) AllReadyH.nil
                go_simp
                refine (HPUT.out _ hb10).mono ?_
                rintro e w9 ⟨⟨r', v', p', s', er, rfl, zs', hbz, hfar, hl64, hcase⟩, hb9⟩
                obtain ⟨a9, c9, rfl, -⟩ := hbz.1.open (fun _ _ => rfl) (by omega)
                have hb89 : Below w8.heap.size w8 w9 := hb10.trans (hb9.mono hb10.size)
                have hth : w9.there w8.heap.size 0 4 := there_blk ((hb9.block _ (by omega)).trans hnew) rfl
                refine hK.out _ _ (HCC.out _ hb89) (fun hHeld3 => ?_)
                clear hK K
                obtain ⟨w11, hw11⟩ : ∃ w11, w11 = w9.setCells w8.heap.size 0 (#[.int .i64 r', .slice a9 zs'.length c9, .int .i64 p', .int .i64 s'] : Array Value).toList := ⟨_, rfl⟩
                have hb11 : Below w8.heap.size w8 w11 := by rw [hw11]; exact below_setCells (Nat.le_refl _) _ _ _ hb89
                have HREL : Hid (Below w8.heap.size w8 w11 ∧ At w11 w8.heap.size 0 [.int .i64 r', .slice a9 zs'.length c9, .int .i64 p', .int .i64 s'] ∧ PutR w8.heap.size w11 room st zs y r' (.slice a9 zs'.length c9) s' er) := Lib.hid ⟨hb11, by rw [hw11]; exact at_set_all hth, zs', by rw [hw11]; exact blks_sets hbz hfar (by omega) _ _, hfar.mono (by omega), hl64, hcase⟩
                have HW11 := Lib.hid hw11
                clear hw11 hb10 hbz hfar hl64 hcase hb89 hnew
                have hsz : (Try.prog.info? 60).map (·.size) = some (#[.int .i64 r', .slice a9 zs'.length c9, .int .i64 p', .int .i64 s'] : Array Value).size := by show _ = some 4; kernel_rfl
                have hall : (#[.int .i64 r', .slice a9 zs'.length c9, .int .i64 p', .int .i64 s'] : Array Value).all (·.oneCell') = true := by simp [Value.oneCell']
                refine wpAnyH_take (i := 6) (v := .tuple #[.agg #[.int .i64 r', .slice a9 zs'.length c9, .int .i64 p', .int .i64 s'], .int .i64 er]) rfl (by kernel_rfl) (by kernel_rfl) (by kernel_rfl) (fun _ _ _ h => h) (Or.inl ⟨by rfl, ?_⟩) (by assumption) ?_
                · (try simp only [List.getElem_toArray, List.getElem_cons_zero, List.getElem_cons_succ]); intro w hSw; (try dsimp only at hSw); go_simp
                try simp only [List.getElem_toArray, List.getElem_cons_zero, List.getElem_cons_succ, Act.put, List.setIfInBounds_toArray, List.set_cons_zero, List.set_cons_succ]
                refine wpAnyH_take (i := 7) (v := .agg #[.int .i64 r', .slice a9 zs'.length c9, .int .i64 p', .int .i64 s']) rfl (by kernel_rfl) (by kernel_rfl) (by kernel_rfl) (fun _ _ _ h => h) (Or.inl ⟨by rfl, ?_⟩) (by assumption) ?_
                · (try simp only [List.getElem_toArray, List.getElem_cons_zero, List.getElem_cons_succ]); intro w hSw; (try dsimp only at hSw); go_simp
                try simp only [List.getElem_toArray, List.getElem_cons_zero, List.getElem_cons_succ, Act.put, List.setIfInBounds_toArray, List.set_cons_zero, List.set_cons_succ]
                refine wpAnyH_take (i := 8) (v := .int .i64 er) rfl (by kernel_rfl) (by kernel_rfl) (by kernel_rfl) (fun _ _ _ h => h) (Or.inl ⟨by rfl, ?_⟩) (by assumption) ?_
                · (try simp only [List.getElem_toArray, List.getElem_cons_zero, List.getElem_cons_succ]); intro w hSw; (try dsimp only at hSw); go_simp
                try simp only [List.getElem_toArray, List.getElem_cons_zero, List.getElem_cons_succ, Act.put, List.setIfInBounds_toArray, List.set_cons_zero, List.set_cons_succ]
                refine wpAnyH_ready (rs := [10]) (by kernel_rfl) (by simp) ?_
                refine AllReadyH.cons rfl (fun K hK => ?_) AllReadyH.nil
                rw [if_pos (by rfl)]
                refine wp_store_mid 60 _ _ rfl w8.heap.size 0 #[.int .i64 r', .slice a9 zs'.length c9, .int .i64 p', .int .i64 s'] rfl rfl hth hsz hall ?_
                simp only [Act.put, List.setIfInBounds_toArray, List.set_cons_zero, List.set_cons_succ]
                rw [← HW11.out]
                refine hK.out _ _ (HCC.out _ hb11) (fun hHeld4 => ?_)
                clear hK K
                refine wpAnyH_ready (rs := [11]) (by kernel_rfl) (by simp) ?_
                refine AllReadyH.cons rfl (fun K hK => ?_) AllReadyH.nil
                go_simp
                refine hK.out _ _ (HCC.out _ hb11) (fun hHeld5 => ?_)
                clear hK K
                refine wpAnyH_done (by kernel_rfl) ?_ _
                clear hHeld hHeld2 hHeld3 hHeld4 hHeld5
                go_wp2_with fail
                go_meet
                case rel => exact ⟨_, er, r', p', s', _, rfl, rfl, HREL⟩
            case rest =>
              obtain ⟨bd, er, r', p', s', v', rfl, rfl, HREL⟩ := hcut
              clear HPUT HCC HW8 HK hbr
              obtain ⟨zs', hbz, hfar, hl64, hcase⟩ := HREL.out.2.2
              have HKW := Lib.hid (HK8.out.below HREL.out.1)
              rw [← HN.out] at hcase
              rcases hcase with ⟨hbad, rfl⟩ | ⟨hn1, hn2, rfl, hr1, hs1, hza⟩
              · have r1 := (HYA.out _ HKW.out.bel).get (j := 1) rfl
                clear hbz hfar hl64 HREL HK8
                rcases hbad with hbad | hbad
                · have k1 : decide ((0 : Int) < (n : Int)) = false := by rw [decide_eq_false_iff_not]; omega
                  have k3 : decide (0 < n) = false := by rw [decide_eq_false_iff_not]; omega
                  have k4 : ¬ 0 < n := by omega
                  clear hbad
                  go_wp2_with fail
                  exact ⟨⟨k + 1, by simp, by omega, _, _, _, _, HKW⟩, by simp [intOf]; omega⟩
                · have k1 : decide ((0 : Int) < (n : Int)) = true := by rw [decide_eq_true_eq]; omega
                  have k3 : decide (0 < n) = true := by rw [decide_eq_true_eq]; omega
                  have k4 : 0 < n := by omega
                  have k5 : ¬ (n : Int) ≤ 16 := by omega
                  have k2 : decide ((n : Int) ≤ 16) = false := by rw [decide_eq_false_iff_not]; omega
                  clear hbad
                  go_wp2_with fail
                  exact ⟨⟨k + 1, by simp, by omega, _, _, _, _, HKW⟩, by simp [intOf]; omega⟩
              · subst r' s'
                have hpk := putL_keeps h0 HK8.out.len HK8.out.dis HK8.out.ins (y := y) (by rw [← HN.out]; exact hn2)
                obtain ⟨a9, c9, rfl, hzc, hcm, -, -⟩ := hbz.1.open (fun _ _ => rfl) (by omega)
                have hzl : (zs'.length : Int) ≤ room := by have := len_abs hza; have := hpk.2.1; omega
                have HCN := Lib.hid (CK.next (pu' := p') (st' := st) HK8.out HREL.out.1 hbz hfar (ins_abs hza hpk.2.2.1) hzl (by rw [pcs_abs hza]; exact hpk.1))
                obtain ⟨F, hF⟩ : ∃ F : Int × List InsD, (rb = true ∧ F = y.abs ∧ ∃ h : placeN zs' y.pc < zs'.length, F = zs'[placeN zs' y.pc].abs) ∨ (rb = false ∧ ¬ placeN zs' y.pc < zs'.length ∧ F = (0, [])) := by
                  cases rb with
                  | true =>
                    obtain ⟨A, hA, hA2⟩ := hpk.2.2.2 (by have := HRB.out; simpa using this)
                    obtain ⟨hh, he⟩ := found_last (hza.trans (by rw [hA])) hA2
                    exact ⟨y.abs, .inl ⟨rfl, rfl, hh, he.symm⟩⟩
                  | false =>
                    have hr0 : ¬ 0 < room := by have := HRB.out; simpa using this
                    exact ⟨(0, []), .inr ⟨rfl, by omega, rfl⟩⟩
                have HF := Lib.hid hF
                have hth : wc.there cb 0 (#[.int .i64 room, .slice a9 zs'.length c9, .int .i64 p', .int .i64 st] : Array Value).size := HKW.out.there
                have hsz : (Try.prog.info? 60).map (·.size) = some (#[.int .i64 room, .slice a9 zs'.length c9, .int .i64 p', .int .i64 st] : Array Value).size := by show _ = some 4; kernel_rfl
                have hall : (#[.int .i64 room, .slice a9 zs'.length c9, .int .i64 p', .int .i64 st] : Array Value).all (·.oneCell') = true := by simp [Value.oneCell']
                have d0 := HREL.out.2.1.get (j := 0) rfl
                have d1 := HREL.out.2.1.get (j := 1) rfl
                have d2 := HREL.out.2.1.get (j := 2) rfl
                have d3 := HREL.out.2.1.get (j := 3) rfl
                simp only [Nat.add_zero, Nat.zero_add] at d0 d1 d2 d3
                obtain ⟨w12, hw12⟩ : ∃ w12, w12 = wc.setCells cb 0 (#[.int .i64 room, .slice a9 zs'.length c9, .int .i64 p', .int .i64 st] : Array Value).toList := ⟨_, rfl⟩
                have HK12 : Hid (CK cb room w w12 (.slice a9 zs'.length c9) zs' p' st) := Lib.hid (by rw [hw12]; exact HCN.out)
                have HW12 := Lib.hid hw12
                unfold maxLen at hcm
                clear hw12 HCN hbz hfar hza hpk HREL HK8 HKW hF
                go_upto_region 23 with (first | (refine wpList_store_mid rfl 60 _ _ rfl cb 0 #[.int .i64 room, .slice a9 zs'.length c9, .int .i64 p', .int .i64 st] rfl rfl hth hsz hall ?_))
                rw [← HW12.out]
                clear hth hsz hall HW12 d0 d1 d2 d3
                have hcl := HK12.out.hi
                have c0 := HK12.out.at_.get (j := 0) rfl
                have c1 := HK12.out.at_.get (j := 1) rfl
                have c2 := HK12.out.at_.get (j := 2) rfl
                have c3 := HK12.out.at_.get (j := 3) rfl
                have r0 := (HYA.out _ HK12.out.bel).get (j := 0) rfl
                simp only [Nat.add_zero, Nat.zero_add] at c0 c1 c2 c3 r0
                have hng : ¬ room < (zs'.length : Int) := by omega
                go_upto_region 25 with (fail)
                have HFIND := Lib.hid (fun W (hW : Below w12.heap.size w12 W) => find_any room (.slice a9 zs'.length c9) p' st zs' y.pc W (HK12.out.below hW).blks (fun x hx => by have := HK12.out.ins x hx; omega) F rb (HF.out.imp (fun h => ⟨h.1, h.2.2⟩) id))
                have HCC : Hid (∀ W, Below w12.heap.size w12 W → W.cell? ⟨cb, 0, none⟩ = some (.int .i64 room) ∧ W.cell? ⟨cb, 1, none⟩ = some (.slice a9 zs'.length c9) ∧ W.cell? ⟨cb, 2, none⟩ = some (.int .i64 p') ∧ W.cell? ⟨cb, 3, none⟩ = some (.int .i64 st) ∧ W.cell? ⟨b, off + k * 2, none⟩ = some (.int .u32 y.pc)) := Lib.hid (fun W hW => ⟨(hW.cell (p := ⟨cb, 0, none⟩) hcl).trans c0, (hW.cell (p := ⟨cb, 1, none⟩) hcl).trans c1, (hW.cell (p := ⟨cb, 2, none⟩) hcl).trans c2, (hW.cell (p := ⟨cb, 3, none⟩) hcl).trans c3, (hW.cell (lt_of_cell r0)).trans r0⟩)
                have hbr : Below w12.heap.size w12 w12.drew := Below.drew (Below.refl _ _)
                clear c0 c1 c2 c3 r0 hng
                go_cut [15, 16] from 119 to 128 (fun t15 t16 wx => ∃ (bz : Nat) (z : BlkD), t15 = .pointer (some ⟨bz, 0, none⟩) ∧ t16 = .bool rb ∧ Hid (Below w12.heap.size w12 wx ∧ At wx bz 0 [.int .u32 z.pc, z.vi] ∧ BlkOk wx z ∧ z.abs = F))
                case first =>
                  refine wp_region_held_drew (S := fun W => W.cell? ⟨cb, 0, none⟩ = some (.int .i64 room) ∧ W.cell? ⟨cb, 1, none⟩ = some (.slice a9 zs'.length c9) ∧ W.cell? ⟨cb, 2, none⟩ = some (.int .i64 p') ∧ W.cell? ⟨cb, 3, none⟩ = some (.int .i64 st) ∧ W.cell? ⟨b, off + k * 2, none⟩ = some (.int .u32 y.pc)) (by kernel_rfl) (HCC.out _ hbr) (fun hHeld => ?_)
                  refine wpAnyH_take (i := 0) (v := .agg #[.int .i64 room, .slice a9 zs'.length c9, .int .i64 p', .int .i64 st]) rfl (by kernel_rfl) (by kernel_rfl) (by kernel_rfl) (fun _ _ _ h => h) (Or.inl ⟨by rfl, ?_⟩) (by assumption) ?_
                  · (try simp only [List.getElem_toArray, List.getElem_cons_zero, List.getElem_cons_succ]); intro w hSw; (try dsimp only at hSw); go_simp
                  try simp only [List.getElem_toArray, List.getElem_cons_zero, List.getElem_cons_succ, Act.put, List.setIfInBounds_toArray, List.set_cons_zero, List.set_cons_succ]
                  refine wpAnyH_take (i := 1) (v := .slice (some ⟨b, off, none⟩) l.length cl) rfl (by kernel_rfl) (by kernel_rfl) (by kernel_rfl) (fun _ _ _ h => h) (Or.inl ⟨by rfl, ?_⟩) (by assumption) ?_
                  · (try simp only [List.getElem_toArray, List.getElem_cons_zero, List.getElem_cons_succ]); intro w hSw; (try dsimp only at hSw); go_simp
                  try simp only [List.getElem_toArray, List.getElem_cons_zero, List.getElem_cons_succ, Act.put, List.setIfInBounds_toArray, List.set_cons_zero, List.set_cons_succ]
                  refine wpAnyH_take (i := 2) (v := .int .i64 k) rfl (by kernel_rfl) (by kernel_rfl) (by kernel_rfl) (fun _ _ _ h => h) (Or.inl ⟨by rfl, ?_⟩) (by assumption) ?_
                  · (try simp only [List.getElem_toArray, List.getElem_cons_zero, List.getElem_cons_succ]); intro w hSw; (try dsimp only at hSw); go_simp
                  try simp only [List.getElem_toArray, List.getElem_cons_zero, List.getElem_cons_succ, Act.put, List.setIfInBounds_toArray, List.set_cons_zero, List.set_cons_succ]
                  refine wpAnyH_take (i := 3) (v := .pointer (some ⟨b, off + k * 2, none⟩)) rfl (by kernel_rfl) (by kernel_rfl) (by kernel_rfl) (fun _ _ _ h => h) (Or.inl ⟨by rfl, ?_⟩) (by assumption) ?_
                  · (try simp only [List.getElem_toArray, List.getElem_cons_zero, List.getElem_cons_succ]); intro w hSw; (try dsimp only at hSw); go_simp
                  try simp only [List.getElem_toArray, List.getElem_cons_zero, List.getElem_cons_succ, Act.put, List.setIfInBounds_toArray, List.set_cons_zero, List.set_cons_succ]
                  refine wpAnyH_take (i := 4) (v := .pointer (some ⟨b, off + k * 2, none⟩)) rfl (by kernel_rfl) (by kernel_rfl) (by kernel_rfl) (fun _ _ _ h => h) (Or.inl ⟨by rfl, ?_⟩) (by assumption) ?_
                  · (try simp only [List.getElem_toArray, List.getElem_cons_zero, List.getElem_cons_succ]); intro w hSw; (try dsimp only at hSw); go_simp
                  try simp only [List.getElem_toArray, List.getElem_cons_zero, List.getElem_cons_succ, Act.put, List.setIfInBounds_toArray, List.set_cons_zero, List.set_cons_succ]
                  refine wpAnyH_take (i := 5) (v := .int .u32 y.pc) rfl (by kernel_rfl) (by kernel_rfl) (by kernel_rfl) (fun _ _ _ h => h) (Or.inl ⟨by rfl, ?_⟩) (by assumption) ?_
                  · (try simp only [List.getElem_toArray, List.getElem_cons_zero, List.getElem_cons_succ]); intro w hSw; (try dsimp only at hSw); go_simp
                  try simp only [List.getElem_toArray, List.getElem_cons_zero, List.getElem_cons_succ, Act.put, List.setIfInBounds_toArray, List.set_cons_zero, List.set_cons_succ]
                  refine wpAnyH_ready (rs := [6, 10]) (by kernel_rfl) (by simp) ?_
                  refine AllReadyH.cons rfl (fun K hK => ?_) (AllReadyH.cons rfl (fun K hK => ?_) AllReadyH.nil)
                  · go_simp
                    refine (HFIND.out _ hbr).mono ?_
                    rintro e w14 ⟨⟨z, rfl, hz, hza⟩, hb14⟩
                    obtain ⟨az, cz, hzv, -⟩ := hz.at_.open (fun _ _ => rfl) (by omega)
                    rw [hzv]
                    have HZV := Lib.hid hzv
                    have hb14 : Below w12.heap.size w12 w14 := hbr.trans hb14
                    clear hzv
                    refine hK.out _ _ (HCC.out _ hb14) (fun hHeld2 => ?_)
                    clear hK K
                    refine wpAnyH_take (i := 7) (v := .tuple #[.agg #[.int .u32 z.pc, .slice az z.ins.length cz], .bool rb]) rfl (by kernel_rfl) (by kernel_rfl) (by kernel_rfl) (fun _ _ _ h => h) (Or.inl ⟨by rfl, ?_⟩) (by assumption) ?_
                    · (try simp only [List.getElem_toArray, List.getElem_cons_zero, List.getElem_cons_succ]); intro w hSw; (try dsimp only at hSw); go_simp
                    try simp only [List.getElem_toArray, List.getElem_cons_zero, List.getElem_cons_succ, Act.put, List.setIfInBounds_toArray, List.set_cons_zero, List.set_cons_succ]
                    refine wpAnyH_take (i := 8) (v := .agg #[.int .u32 z.pc, .slice az z.ins.length cz]) rfl (by kernel_rfl) (by kernel_rfl) (by kernel_rfl) (fun _ _ _ h => h) (Or.inl ⟨by rfl, ?_⟩) (by assumption) ?_
                    · (try simp only [List.getElem_toArray, List.getElem_cons_zero, List.getElem_cons_succ]); intro w hSw; (try dsimp only at hSw); go_simp
                    try simp only [List.getElem_toArray, List.getElem_cons_zero, List.getElem_cons_succ, Act.put, List.setIfInBounds_toArray, List.set_cons_zero, List.set_cons_succ]
                    refine wpAnyH_take (i := 9) (v := .bool rb) rfl (by kernel_rfl) (by kernel_rfl) (by kernel_rfl) (fun _ _ _ h => h) (Or.inl ⟨by rfl, ?_⟩) (by assumption) ?_
                    · (try simp only [List.getElem_toArray, List.getElem_cons_zero, List.getElem_cons_succ]); intro w hSw; (try dsimp only at hSw); go_simp
                    try simp only [List.getElem_toArray, List.getElem_cons_zero, List.getElem_cons_succ, Act.put, List.setIfInBounds_toArray, List.set_cons_zero, List.set_cons_succ]
                    refine wpAnyH_ready (rs := [10]) (by kernel_rfl) (by simp) ?_
                    refine AllReadyH.cons rfl (fun K hK => ?_) AllReadyH.nil
                    go_simp
                    obtain ⟨w15, hw15⟩ : ∃ w15, w15 = w14.alloc (.cells #[.int .u32 0, .slice none 0 0] 63) := ⟨_, rfl⟩
                    rw [← hw15]
                    have hb15 : Below w14.heap.size w14 w15 := by rw [hw15]; exact (by repeat (first | with_reducible exact Below.refl _ _ | with_reducible refine below_drewN ?_ _ | ((with_reducible refine Below.setCell ?_ ?hq _); case hq => (first | (simp; done) | (simp; omega))) | ((with_reducible refine Below.alloc ?_ ?hq _); case hq => (first | (simp; done) | (simp; omega)))))
                    have hth : w15.there w14.heap.size 0 2 := by rw [hw15]; exact there_blk (heap_alloc_new _ _) rfl
                    refine hK.out _ _ (HCC.out _ (hb14.trans (hb15.mono hb14.size))) (fun hHeld3 => ?_)
                    clear hK K
                    obtain ⟨w16, hw16⟩ : ∃ w16, w16 = w15.setCells w14.heap.size 0 (#[.int .u32 z.pc, .slice az z.ins.length cz] : Array Value).toList := ⟨_, rfl⟩
                    have hb1416 : Below w14.heap.size w14 w16 := by rw [hw16]; exact below_setCells (Nat.le_refl _) _ _ _ hb15
                    have hb16 : Below w12.heap.size w12 w16 := hb14.trans (hb1416.mono hb14.size)
                    have HREL2 : Hid (Below w12.heap.size w12 w16 ∧ At w16 w14.heap.size 0 [.int .u32 z.pc, z.vi] ∧ BlkOk w16 z ∧ z.abs = F) := Lib.hid ⟨hb16, by rw [hw16, HZV.out]; exact at_set_all hth, hz.below hb1416, hza⟩
                    have HW16 := Lib.hid hw16
                    clear hw15 hw16 hb15 hb1416 hz hza
                    have hsz : (Try.prog.info? 63).map (·.size) = some (#[.int .u32 z.pc, .slice az z.ins.length cz] : Array Value).size := by show _ = some 2; kernel_rfl
                    have hall : (#[.int .u32 z.pc, .slice az z.ins.length cz] : Array Value).all (·.oneCell') = true := by simp [Value.oneCell']
                    refine wpAnyH_ready (rs := [11]) (by kernel_rfl) (by simp) ?_
                    refine AllReadyH.cons rfl (fun K hK => ?_) AllReadyH.nil
                    rw [if_pos (by rfl)]
                    refine wp_store_mid 63 _ _ rfl w14.heap.size 0 #[.int .u32 z.pc, .slice az z.ins.length cz] rfl rfl hth hsz hall ?_
                    simp only [Act.put, List.setIfInBounds_toArray, List.set_cons_zero, List.set_cons_succ]
                    rw [← HW16.out]
                    refine hK.out _ _ (HCC.out _ hb16) (fun hHeld4 => ?_)
                    clear hK K
                    refine wpAnyH_ready (rs := [12]) (by kernel_rfl) (by simp) ?_
                    refine AllReadyH.cons rfl (fun K hK => ?_) AllReadyH.nil
                    go_simp
                    refine hK.out _ _ (HCC.out _ hb16) (fun hHeld5 => ?_)
                    clear hK K
                    refine wpAnyH_done (by kernel_rfl) ?_ _
                    clear hHeld hHeld2 hHeld3 hHeld4 hHeld5
                    go_wp2_with fail
                    go_meet
                    case rel => exact ⟨_, z, rfl, rfl, HREL2⟩
                  · go_simp
                    obtain ⟨w15, hw15⟩ : ∃ w15, w15 = (w12.alloc (.cells #[.int .u32 0, .slice none 0 0] 63)).drew := ⟨_, rfl⟩
                    rw [← hw15]
                    have hb15 : Below w12.heap.size w12 w15 := by rw [hw15]; exact Below.drew ((Below.refl _ _).alloc (Nat.le_refl _) _)
                    have hs15 : w15.heap.size = w12.heap.size + 1 := by rw [hw15]; show (w12.alloc _).heap.size = _; simp
                    have hnew : w15.heap[w12.heap.size]? = some (.cells #[.int .u32 0, .slice none 0 0] 63 (0, 0)) := by rw [hw15]; exact heap_alloc_new w12 _
                    refine hK.out _ _ (HCC.out _ hb15) (fun hHeld2 => ?_)
                    clear hK K hw15
                    refine wpAnyH_ready (rs := [6]) (by kernel_rfl) (by simp) ?_
                    refine AllReadyH.cons rfl (fun K hK => ?_) AllReadyH.nil
                    go_simp
                    refine (HFIND.out _ hb15).mono ?_
                    rintro e w14 ⟨⟨z, rfl, hz, hza⟩, hb14⟩
                    obtain ⟨az, cz, hzv, -⟩ := hz.at_.open (fun _ _ => rfl) (by omega)
                    rw [hzv]
                    have HZV := Lib.hid hzv
                    clear hzv
                    have hb1214 : Below w12.heap.size w12 w14 := hb15.trans (hb14.mono hb15.size)
                    have hnew2 := (hb14.block w12.heap.size (by omega)).trans hnew
                    have hth : w14.there w12.heap.size 0 2 := there_blk hnew2 rfl
                    refine hK.out _ _ (HCC.out _ hb1214) (fun hHeld3 => ?_)
                    clear hK K
                    obtain ⟨w16, hw16⟩ : ∃ w16, w16 = w14.setCells w12.heap.size 0 (#[.int .u32 z.pc, .slice az z.ins.length cz] : Array Value).toList := ⟨_, rfl⟩
                    have hb16 : Below w12.heap.size w12 w16 := by rw [hw16]; exact below_setCells (Nat.le_refl _) _ _ _ hb1214
                    have HREL2 : Hid (Below w12.heap.size w12 w16 ∧ At w16 w12.heap.size 0 [.int .u32 z.pc, z.vi] ∧ BlkOk w16 z ∧ z.abs = F) := Lib.hid ⟨hb16, by rw [hw16, HZV.out]; exact at_set_all hth, by rw [hw16]; exact blkok_set_small hz hnew2 (by simp) _ _, hza⟩
                    have HW16 := Lib.hid hw16
                    clear hw16 hb15 hz hza hb1214 hnew hnew2 hb14
                    refine wpAnyH_take (i := 7) (v := .tuple #[.agg #[.int .u32 z.pc, .slice az z.ins.length cz], .bool rb]) rfl (by kernel_rfl) (by kernel_rfl) (by kernel_rfl) (fun _ _ _ h => h) (Or.inl ⟨by rfl, ?_⟩) (by assumption) ?_
                    · (try simp only [List.getElem_toArray, List.getElem_cons_zero, List.getElem_cons_succ]); intro w hSw; (try dsimp only at hSw); go_simp
                    try simp only [List.getElem_toArray, List.getElem_cons_zero, List.getElem_cons_succ, Act.put, List.setIfInBounds_toArray, List.set_cons_zero, List.set_cons_succ]
                    refine wpAnyH_take (i := 8) (v := .agg #[.int .u32 z.pc, .slice az z.ins.length cz]) rfl (by kernel_rfl) (by kernel_rfl) (by kernel_rfl) (fun _ _ _ h => h) (Or.inl ⟨by rfl, ?_⟩) (by assumption) ?_
                    · (try simp only [List.getElem_toArray, List.getElem_cons_zero, List.getElem_cons_succ]); intro w hSw; (try dsimp only at hSw); go_simp
                    try simp only [List.getElem_toArray, List.getElem_cons_zero, List.getElem_cons_succ, Act.put, List.setIfInBounds_toArray, List.set_cons_zero, List.set_cons_succ]
                    refine wpAnyH_take (i := 9) (v := .bool rb) rfl (by kernel_rfl) (by kernel_rfl) (by kernel_rfl) (fun _ _ _ h => h) (Or.inl ⟨by rfl, ?_⟩) (by assumption) ?_
                    · (try simp only [List.getElem_toArray, List.getElem_cons_zero, List.getElem_cons_succ]); intro w hSw; (try dsimp only at hSw); go_simp
                    try simp only [List.getElem_toArray, List.getElem_cons_zero, List.getElem_cons_succ, Act.put, List.setIfInBounds_toArray, List.set_cons_zero, List.set_cons_succ]
                    have hsz : (Try.prog.info? 63).map (·.size) = some (#[.int .u32 z.pc, .slice az z.ins.length cz] : Array Value).size := by show _ = some 2; kernel_rfl
                    have hall : (#[.int .u32 z.pc, .slice az z.ins.length cz] : Array Value).all (·.oneCell') = true := by simp [Value.oneCell']
                    refine wpAnyH_ready (rs := [11]) (by kernel_rfl) (by simp) ?_
                    refine AllReadyH.cons rfl (fun K hK => ?_) AllReadyH.nil
                    rw [if_pos (by rfl)]
                    refine wp_store_mid 63 _ _ rfl w12.heap.size 0 #[.int .u32 z.pc, .slice az z.ins.length cz] rfl rfl hth hsz hall ?_
                    simp only [Act.put, List.setIfInBounds_toArray, List.set_cons_zero, List.set_cons_succ]
                    rw [← HW16.out]
                    refine hK.out _ _ (HCC.out _ hb16) (fun hHeld4 => ?_)
                    clear hK K
                    refine wpAnyH_ready (rs := [12]) (by kernel_rfl) (by simp) ?_
                    refine AllReadyH.cons rfl (fun K hK => ?_) AllReadyH.nil
                    go_simp
                    refine hK.out _ _ (HCC.out _ hb16) (fun hHeld5 => ?_)
                    clear hK K
                    refine wpAnyH_done (by kernel_rfl) ?_ _
                    clear hHeld hHeld2 hHeld3 hHeld4 hHeld5
                    go_wp2_with fail
                    go_meet
                    case rel => exact ⟨_, z, rfl, rfl, HREL2⟩
                case rest =>
                  obtain ⟨bz, z, rfl, rfl, HZ⟩ := hcut
                  obtain ⟨w13, hw13⟩ : ∃ w13, w13 = wc := ⟨_, rfl⟩
                  rw [← hw13] at HZ ⊢
                  clear hw13 HCC HFIND hbr
                  have HK13 := Lib.hid (HK12.out.below HZ.out.1)
                  go_upto_region 26 with (fail)
                  go_cut [144] from 129 to 143 (fun s wx => s = .bool false ∧ Hid (Below w13.heap.size w13 wx))
                  case first =>
                    obtain ⟨az, cz, hzv, -⟩ := HZ.out.2.2.1.at_.open (fun _ _ => rfl) (by omega)
                    have HZX : Hid (∀ W, Below w13.heap.size w13 W → At W bz 0 [.int .u32 z.pc, .slice az z.ins.length cz]) := Lib.hid (fun W hW => by have := HZ.out.2.1; rw [hzv] at this; exact this.below hW)
                    have HYX : Hid (∀ W, Below w13.heap.size w13 W → At W b (off + k * 2) [.int .u32 y.pc, .slice ay n cy]) := Lib.hid (fun W hW => HYA.out W (HK13.out.bel.trans (hW.mono HK13.out.bel.size)))
                    have HZV := Lib.hid hzv
                    clear hzv
                    cases rb with
                    | true =>
                      have hr1 : 0 < room := by have := HRB.out; simpa using this
                      have hdr : decide ((0 : Int) < room) = true := decide_eq_true hr1
                      have HS : Hid (∀ W, Below w13.heap.size w13 W → Calls Try.prog 35 #[.agg #[.int .u32 z.pc, .slice az z.ins.length cz], .agg #[.int .u32 y.pc, .slice ay n cy]] W fun e w' => e = .returned (.bool true) ∧ Below W.heap.size W w') := Lib.hid (fun W hW => by
                        have hzy : z.abs = y.abs := by
                          rcases HF.out with h | h
                          · exact HZ.out.2.2.2.trans h.2.1
                          · exact absurd h.1 (by decide)
                        have e1 : z.pc = y.pc := congrArg Prod.fst hzy
                        have e2 : z.ins = y.ins := congrArg Prod.snd hzy
                        rw [← HZV.out, e1, HN.out, ← HYV.out, ]
                        exact same6_any z.vi y.vi z.ins y.pc W (HZ.out.2.2.1.below hW).at_ (by rw [e2]; exact (HYO.out W (HK13.out.bel.trans (hW.mono HK13.out.bel.size))).at_))
                      refine region_quiet_lit (fun W => Below w13.heap.size w13 W) (by kernel_rfl) (by kernel_rfl) (Below.drew (Below.refl _ _)) ?_
                      iterate 7 go_big_quiet_step ((intro _; rfl))
                      refine wpQuiet_load_g (by rfl) 63 _ rfl bz 0 rfl #[.int .u32 z.pc, .slice az z.ins.length cz] _ (fun W hW => HZX.out W hW) Try.underlying63 rfl (by show _ = some 2; kernel_rfl) ?_
                      simp only [Act.put, List.setIfInBounds_toArray, List.set_cons_zero, List.set_cons_succ]
                      iterate 3 go_big_quiet_step ((intro _; rfl))
                      refine wpQuiet_load_g (by rfl) 63 _ rfl b (off + k * 2) rfl #[.int .u32 y.pc, .slice ay n cy] _ (fun W hW => HYX.out W hW) Try.underlying63 rfl (by show _ = some 2; kernel_rfl) ?_
                      simp only [Act.put, List.setIfInBounds_toArray, List.set_cons_zero, List.set_cons_succ]
                      go_big_quiet_step ((intro hC; exact (HS.out _ hC).mono (fun e w'' ⟨he, hb⟩ => ⟨he, hC.trans (hb.mono hC.size)⟩)))
                      repeat (go_big_quiet_step ((intro _; rfl)))
                      refine wpQuiet_nil ?_
                      intro w9 hb9
                      go_wp2_with fail
                      go_meet
                      case rel => exact ⟨rfl, Lib.hid hb9⟩
                    | false =>
                      have hr1 : ¬ 0 < room := by have := HRB.out; simpa using this
                      have hdr : decide ((0 : Int) < room) = false := decide_eq_false hr1
                      refine region_quiet_lit (fun W => Below w13.heap.size w13 W) (by kernel_rfl) (by kernel_rfl) (Below.drew (Below.refl _ _)) ?_
                      repeat (go_big_quiet_step ((intro _; rfl)))
                      refine wpQuiet_nil ?_
                      intro w9 hb9
                      go_wp2_with fail
                      go_meet
                      case rel => exact ⟨rfl, Lib.hid hb9⟩
                  case rest =>
                    obtain ⟨rfl, hcut2⟩ := hcut
                    obtain ⟨w14, hw14⟩ : ∃ w14, w14 = wc := ⟨_, rfl⟩
                    rw [← hw14] at hcut2 ⊢
                    have HK14 := Lib.hid (HK13.out.below hcut2.out)
                    clear hw14 hcut2 HZ HK13 HK12
                    go_wp2_with fail
                    go_loopw [17] (fun i wx => ∃ j : Nat, i = .int .i64 j ∧ j ≤ zs'.length ∧ Hid (Below w14.heap.size w14 wx)) (fun i _ => zs'.length - (intOf i).toNat)
                    case atStart => exact ⟨0, rfl, by omega, Lib.hid (Below.refl _ _)⟩
                    case round =>
                      obtain ⟨j, rfl, hj, HBX⟩ := hrel
                      have HKX := Lib.hid (HK14.out.below HBX.out)
                      have hcl : cb < wr.heap.size := HKX.out.hi
                      have c1 := HKX.out.at_.get (j := 1) rfl
                      simp only [Nat.add_zero, Nat.zero_add] at c1
                      by_cases hjl : j < zs'.length
                      · obtain ⟨b2, off2, e, hbl2, hel2⟩ : ∃ b2 off2, a9 = some ⟨b2, off2, none⟩ ∧ b2 < w14.heap.size ∧ ∀ i (hi : i < zs'.length), At w14 b2 (off2 + i * 2) (blist zs'[i]) := by
                          obtain ⟨a', c', e, -, -, -, ho⟩ := HK14.out.blks.1.open (fun _ _ => rfl) (by omega)
                          cases e
                          exact ho (by intro e; rw [e] at hjl; simp at hjl)
                        subst e
                        obtain ⟨x, hx⟩ : ∃ x, x = zs'[j] := ⟨_, rfl⟩
                        have HX : Hid (∀ W, Below wr.heap.size wr W → W.cell? ⟨b2, off2 + j * 2, none⟩ = some (.int .u32 x.pc)) := Lib.hid (fun W hW => by have := hel2 j hjl; rw [← hx] at this; exact (At.below this (HBX.out.trans (hW.mono HBX.out.size))).get (j := 0) rfl)
                        have HPL : Hid (∀ W, Below wr.heap.size wr W → Calls Try.prog 34 #[.slice (some ⟨b2, off2, none⟩) j c9, .int .u32 x.pc] W fun e w' => e = .returned (.int .i64 (-1)) ∧ w' = W) := Lib.hid (fun W hW => by
                          have := place9_any (.slice (some ⟨b2, off2, none⟩) j c9) (zs'.take j) x.pc W (blks_pre (HKX.out.below hW).blks hj)
                          rw [hx, place_none HKX.out.dis hjl] at this
                          rw [hx]
                          exact this)
                        have HC1 : Hid (∀ W, Below wr.heap.size wr W → W.cell? ⟨cb, 1, none⟩ = some (.slice (some ⟨b2, off2, none⟩) zs'.length c9)) := Lib.hid (fun W hW => (hW.cell (p := ⟨cb, 1, none⟩) hcl).trans c1)
                        have q1 : (j : Int) < (zs'.length : Int) := by omega
                        have q0 : (0 : Int) ≤ (j : Int) := by omega
                        have q2 : (j : Int) ≤ (c9 : Int) := by omega
                        have q3 : decide ((0 : Int) ≤ -1) = false := by decide
                        clear hel2 hx
                        go_upto_region 31 with (fail)
                        refine region_quiet_lit (fun W => Below wr.heap.size wr W) (by kernel_rfl) (by kernel_rfl) (Below.drew (Below.refl _ _)) ?_
                        go_big_quiet_step ((intro _; rfl))
                        refine wpQuiet_cell_g (by rfl) 58 _ rfl ⟨cb, 1, none⟩ rfl (.slice (some ⟨b2, off2, none⟩) zs'.length c9) (fun W hW => by have hc := HC1.out W hW; go_simp) ?_
                        simp only [Act.put, List.setIfInBounds_toArray, List.set_cons_zero, List.set_cons_succ]
                        iterate 3 go_big_quiet_step ((intro _; rfl))
                        refine wpQuiet_cell_g (by rfl) 58 _ rfl ⟨cb, 1, none⟩ rfl (.slice (some ⟨b2, off2, none⟩) zs'.length c9) (fun W hW => by have hc := HC1.out W hW; go_simp) ?_
                        simp only [Act.put, List.setIfInBounds_toArray, List.set_cons_zero, List.set_cons_succ]
                        iterate 3 go_big_quiet_step ((intro _; rfl))
                        refine wpQuiet_cell_g (by rfl) 33 _ rfl ⟨b2, off2 + j * 2, none⟩ rfl (.int .u32 x.pc) (fun W hW => by have hc := HX.out W hW; go_simp) ?_
                        simp only [Act.put, List.setIfInBounds_toArray, List.set_cons_zero, List.set_cons_succ]
                        go_big_quiet_step ((intro hC; exact (HPL.out _ hC).mono (fun e w'' ⟨he, hb⟩ => ⟨he, by rw [hb]; exact hC⟩)))
                        repeat (go_big_quiet_step ((intro _; rfl)))
                        refine wpQuiet_nil ?_
                        intro w15 hb15
                        have hbx2 := HBX.out.size
                        go_wp2_with fail
                        go_roundw
                        case rel => exact ⟨j + 1, by simp, by omega, Lib.hid (HBX.out.trans (hb15.mono hbx2))⟩
                        case measure => simp [intOf]; omega
                      · have q1 : ¬ (j : Int) < (zs'.length : Int) := by omega
                        go_wp2_with fail
                        go_roundw
                        case rel => exact ⟨k + 1, by simp, by omega, _, _, _, _, HKX⟩
                        case measure => simp [intOf]; omega
        · have i1 : (k : Int) < (l.length : Int) := by omega
          have i2 : ¬ (k : Int) < 200 := by omega
          have hb := Lib.hid HK.out.bel
          go_wp2_with fail
          go_ret
          exact ⟨rfl, hb.out⟩
      · have i1 : ¬ (k : Int) < (l.length : Int) := by omega
        have hb := Lib.hid HK.out.bel
        go_wp2_with fail
        go_ret
        exact ⟨rfl, hb.out⟩
theorem walk_all (room : Int) (v vr : Value) (l : List BlkD) (rs : List (Int × Int)) (w : World) (hroom : i64ok room) (hv : Blks w v l) (hi : ∀ x ∈ l, x.ins.length ≤ 3518437208883) (hr : Sl w vr 2 rs.length (rs.flatMap rlist)) (hrw : ∀ r ∈ rs, U32 r.1 ∧ U32 r.2) :
    Calls Try.prog 13 #[.int .i64 room, v, vr] w fun e w' => e = .returned (.bool true) ∧ Below w.heap.size w w' := by
  by_cases hbad : room < 0 ∨ 64 < room
  · exact walk_bad room v vr w hroom hbad
  · exact walk room v vr l rs w (by omega) (by omega) hv hi hr hrw
theorem opens_ranges {H : Type} {enc : TypeId × Value → H} {W : World} : RowB.Opens enc Try.prog W 77 (fun p : Value × List (Int × Int) => [p.1]) (fun p => Sl W p.1 2 p.2.length (p.2.flatMap rlist) ∧ ∀ r ∈ p.2, U32 r.1 ∧ U32 r.2) := fun fuel cs d ps h hw => by
  obtain ⟨v, rfl, l, h1, h2, h3⟩ := RowB.opens_slice (enc := enc) (P := Try.prog) (W := W) Try.underlying77 (s := 2) (by kernel_rfl) (by omega) (fun _ _ => rfl) RowB.opens_range fuel cs d ps h hw
  exact ⟨(v, l), rfl, h1, h2⟩
open RowB in
set_option maxRecDepth 100000 in
set_option maxHeartbeats 1600000 in
theorem lifted (os : Os) (started : os.Started) (H : Type) (enc : TypeId × Value → H) :
    ReturnsInHanded {} Try.checked os 13 .any (Rows.cacheKeepsSpec.pre6 enc Try.prog Try.f13 Rows.cacheKeepsRow.domain false) (Rows.cacheKeepsSpec.post enc Try.prog Try.f13 false true false false) := by
  refine RowB.law_lifted (C := Try.checked) (tb := 4) (by kernel_rfl) started (by kernel_rfl) (by kernel_rfl)
    (ChangeSpec.witness6 (enc := enc) (C := Try.checked) false ⟨#[], #[.int .i64 0, .slice none 0 0, .slice none 0 0], []⟩ 8 (by kernel_rfl) (by kernel_rfl) (by kernel_rfl) (by kernel_rfl))
    rfl (fun ds h => by match ds, h with | [_, _, _], _ => rfl) (by kernel_rfl) (by kernel_rfl) (by kernel_rfl) (of_decide_eq_true (by kernel_rfl)) ?_
  intro W base args ds ps hval hA _ hz
  have hp : (Try.f13).params.toList = [3, 58, 77] := by kernel_rfl
  rw [hp] at hA hz
  obtain ⟨v0, vs0, d0, ds0, p0, q0, hargs, rfl, rfl, h0, r0⟩ := ChangeShapes.trodAll_cons hA
  obtain ⟨v1, vs1, d1, ds1, p1, q1, rfl, rfl, rfl, h1, r1⟩ := ChangeShapes.trodAll_cons r0
  obtain ⟨v2, vs2, d2, ds2, p2, q2, rfl, rfl, rfl, h2, r2⟩ := ChangeShapes.trodAll_cons r1
  obtain ⟨rfl, rfl, rfl⟩ := ChangeShapes.trodAll_nil r2
  obtain rfl : args = #[v0, v1, v2] := by cases args; simp_all
  obtain ⟨z0, y0⟩ := weights_cons hz
  obtain ⟨z1, y1⟩ := weights_cons y0
  obtain ⟨z2, y2⟩ := weights_cons y1
  have k0 := hval 0 3 v0 (by kernel_rfl) rfl
  have k1 := hval 1 58 v1 (by kernel_rfl) rfl
  have k2 := hval 2 77 v2 (by kernel_rfl) rfl
  obtain ⟨a, rfl, rfl, rfl, wa⟩ := ChangeShapes.open_int Try.underlying3 k0 h0
  obtain ⟨⟨v, l⟩, rfl, hv, hvi, hl⟩ := opens_blocks.argSlice (g := fun p : Value × List BlkD => p.1) Try.underlying58 k1 h1 z1
  obtain ⟨⟨vr, rs⟩, rfl, hr, hrw⟩ := opens_ranges.argSlice (g := fun p : Value × List (Int × Int) => p.1) Try.underlying77 k2 h2 z2
  exact walk_all a v1 v2 l rs W (Fb.wf_i64 wa) hv (fun x hx => (hvi x hx).2.2) hr hrw
/-- THE STATEMENT -/
theorem proved : Rows.CacheKeepsSaid :=
  OpenClaim.holds_of_wide 13 Try.f13 rfl rfl rfl rfl rfl rfl rfl ⟨rfl, rfl, rfl, rfl, rfl⟩ rfl rfl rfl rfl rfl (by kernel_rfl) Try.func13 (by kernel_rfl)
    (of_decide_eq_true (by kernel_rfl)) (by unfold Func.isWrapper; first | (rw [if_pos (by decide +kernel)]; kernel_rfl) | (rw [if_neg (by decide +kernel)]; exact ⟨rfl, rfl⟩))
    (fun os started H enc _ => lifted os started H enc)
#print axioms proved
end Go.Proofs.Ytlfnddmncbkjaaa.CacheKeepsLaw
