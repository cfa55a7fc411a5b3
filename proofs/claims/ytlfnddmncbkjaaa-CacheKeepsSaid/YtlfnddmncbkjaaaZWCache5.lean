/- slices.DeleteFunc over blocks, with the closure of cache.Stale, walked. -/
import Derived.OwnWalk
import Derived.Test.YtlfnddmncbkjaaaZWCache4
import Derived.Test.YtlfnddmncbkjaaaZMB
namespace Go.Proofs.Ytlfnddmncbkjaaa.W
set_option linter.unusedVariables false
set_option linter.unusedSimpArgs false
open Go.RowKit Fb
theorem info_block5 : (Try.prog.info? 63).map (fun i => (i.zero, i.size, i.bytes)) = some (some (.agg #[.int .u32 0, .slice none 0 0]), 2, 32) := by kernel_rfl
set_option maxRecDepth 100000 in
set_option maxHeartbeats 1600000 in
theorem dfunc_any (B : Nat) (v : Value) (ys : List BlkD) (fr tw : Int) (pb : Nat) (w : World) (hv : Cp B 63 54 w v ys) (hB : B ≤ w.heap.size) (hpb : pb < B) (h0 : w.cell? ⟨pb, 0, none⟩ = some (.int .u32 fr)) (h1 : w.cell? ⟨pb, 1, none⟩ = some (.int .u32 tw)) (hins : ∀ x ∈ ys, x.ins.length ≤ 3518437208883) (hf : U32 fr) (ht : U32 tw) :
    Calls Try.prog 77 #[v, .func (.func 78) #[] #[.pointer (some ⟨pb, 0, none⟩)]] w fun e w' => (∃ v', e = .returned v' ∧ Cp B 63 54 w' v' (ys.filter (fun x => !staleB fr tw x))) ∧ Below B w w' := by
  have hne : 63 ≠ 54 := by decide
  obtain ⟨av, cv, ev⟩ := owns_slice hv.own
  have hcm : ys.length ≤ cv ∧ cv ≤ maxLen := by
    obtain ⟨_, _, e, h1, h2, _⟩ := (owns_sl hv.own).open (l := ys) (fun _ _ => rfl) (by omega)
    rw [ev] at e; cases e; exact ⟨h1, h2⟩
  have HIX := Lib.hid (indexStale_any v ys fr tw pb w hv.blks h0 h1 hins hf ht)
  have hlp : pb < w.heap.size := by omega
  have HDEL : Hid (∀ x ∈ ys, ∀ W, Below B w W → W.ownsRow B 54 5 x.vi x.ins.length (x.ins.flatMap ilist) → Calls Try.prog 78 #[.agg #[.int .u32 x.pc, x.vi], .pointer (some ⟨pb, 0, none⟩)] W fun e w' => e = .returned (.bool (staleB fr tw x)) ∧ Below W.heap.size W w') := Lib.hid (fun x hx W hW ho => stale1_any x fr tw pb W ((hW.cell (p := ⟨pb, 0, none⟩) hpb).trans h0) ((hW.cell (p := ⟨pb, 1, none⟩) hpb).trans h1) ⟨owns_sl ho, hv.pc x hx⟩ (hins x hx) hf ht)
  have HV := Lib.hid hv
  obtain ⟨P, hP⟩ : ∃ P : BlkD → Bool, P = staleB fr tw := ⟨_, rfl⟩
  have hPe : (fun x => !staleB fr tw x) = fun x => !P x := by rw [hP]
  rw [hPe]
  rw [← hP] at HIX HDEL
  subst ev
  obtain ⟨hc1, hc2⟩ := hcm
  unfold maxLen at hc2
  obtain ⟨ib, hib, hb0, hb1, hby⟩ := info_parts info_block5
  clear hP hPe h0 h1 hf ht hins hv
  by_cases hex : ∃ k, ∃ h : k < ys.length, P ys[k] = true ∧ ∀ j (hj : j < k), P ys[j] = false
  · obtain ⟨k, hk, hpk, hmin⟩ := hex
    rw [firstI_at hk hpk hmin] at HIX
    obtain ⟨g, cap, e, hBg, hcl, hcm, hdl⟩ := Dl.begin HV.out (by omega)
    cases e
    have HD0 := Lib.hid (hdl k (by omega))
    have hkk : ¬ (k : Int) = -1 := by omega
    have hkb : ((k : Int) == -1) = false := by simp
    have HTK : Hid (ys.take k = (ys.take (k + 1)).filter (fun x => !P x)) := Lib.hid (by
      rw [List.take_succ_eq_append_getElem hk, List.filter_append, List.filter_eq_self.2 (fun x hx => ?_), show [ys[k]].filter (fun x => !P x) = [] by simp [hpk], List.append_nil]
      obtain ⟨j, hj, rfl⟩ := List.mem_iff_getElem.1 hx
      have hj2 : j < k := by simp at hj; omega
      rw [List.getElem_take, hmin j hj2]; rfl)
    have hkl : (ys.take k).length = k := by simp; omega
    have HKL := Lib.hid hkl
    clear hdl hmin hpk hkl
    go_enter Try.func77, Try.ntmps77
    go_wp2_with fail
    refine HIX.out.mono ?_
    rintro e w1 ⟨rfl, hb1'⟩
    have HD1 := Lib.hid ((HD0.out.below hB hb1').skip)
    have hs1 := hb1'.size
    clear hb1'
    go_wp2_with fail
    go_loopw [5, 6] (fun x i wr => ∃ (a j : Nat) (kept : List BlkD), x = .int .i64 a ∧ i = .int .i64 j ∧ a < j ∧ j ≤ ys.length ∧ kept.length = a ∧ w.heap.size ≤ wr.heap.size ∧ Hid (Dl B 63 54 g cv w wr ys kept j ∧ kept = (ys.take j).filter (fun x => !P x))) (fun _ i _ => ys.length - (intOf i).toNat)
    case atStart => exact ⟨k, k + 1, ys.take k, rfl, by simp, by omega, by omega, HKL.out, hs1, Lib.hid ⟨HD1.out, HTK.out⟩⟩
    case round =>
      obtain ⟨a, j, kept, rfl, rfl, haj, hj, hka, hsz, HR⟩ := hrel
      by_cases hlt : j < ys.length
      · obtain ⟨x, hx⟩ : ∃ x, x = ys[j] := ⟨_, rfl⟩
        have hxm : x ∈ ys := by rw [hx]; exact List.getElem_mem hlt
        have hrow := HR.out.1.row x hxm
        obtain ⟨ac, cc, hvi⟩ := owns_slice hrow
        have hat := HR.out.1.rest j hlt (Nat.le_refl _)
        rw [← hx] at hat
        have c0 := hat.get (j := 0) (v := .int .u32 x.pc) rfl
        have c1 := hat.get (j := 1) (v := x.vi) rfl
        simp only [Nat.add_zero] at c0
        rw [hvi] at c1
        obtain ⟨w3, hw3⟩ : ∃ w3, w3 = wr.alloc (.cells #[.int .u32 x.pc, .slice ac x.ins.length cc] 63) := ⟨_, rfl⟩
        have hb3 : Below wr.heap.size wr w3 := by rw [hw3]; exact (by repeat (first | with_reducible exact Below.refl _ _ | with_reducible refine below_drewN ?_ _ | ((with_reducible refine Below.setCell ?_ ?hq _); case hq => (first | (simp; done) | (simp; omega))) | ((with_reducible refine Below.alloc ?_ ?hq _); case hq => (first | (simp; done) | (simp; omega)))))
        have hs3 : wr.heap.size + 1 ≤ w3.heap.size := by rw [hw3]; simp
        have e0 : (w3).cell? ⟨wr.heap.size, 0, none⟩ = some (.int .u32 x.pc) := by rw [hw3]; go_cell
        have e1 : (w3).cell? ⟨wr.heap.size, 1, none⟩ = some (.slice ac x.ins.length cc) := by rw [hw3]; go_cell
        have hBr : B ≤ wr.heap.size := by omega
        have HD3 := Lib.hid (HR.out.1.below hBr hb3)
        have HC3 := Lib.hid (HDEL.out x hxm w3 (HD3.out.bel) (HD3.out.row x hxm))
        rw [hvi] at HC3
        have HW3 := Lib.hid hw3
        have HTS : Hid ((ys.take (j + 1)).filter (fun x => !P x) = kept ++ (if P x = true then [] else [x])) := Lib.hid (by
          rw [List.take_succ_eq_append_getElem hlt, List.filter_append, ← HR.out.2, ← hx]
          congr 1
          cases hpx : P x with
          | true => simp [hpx]
          | false => simp [hpx])
        have HVI := Lib.hid hvi
        have HXM := Lib.hid hxm
        have ha0 : (0 : Int) ≤ (a : Int) := by omega
        have ha1 : (a : Int) < (ys.length : Int) := by omega
        have hjc : j < cv := by omega
        clear hw3 hb3 hat hrow hx hvi hxm
        obtain ⟨s, hs⟩ : ∃ s, s = P x := ⟨_, rfl⟩
        rw [← hs] at HC3 HTS
        clear hs
        go_upto_region 8 with (fail)
        rw [← HW3.out]
        clear c0 c1
        go_wp2_with fail
        refine HC3.out.mono ?_
        rintro e w4 ⟨rfl, hb4⟩
        have l3 : wr.heap.size < w3.heap.size := by omega
        have f0 := (hb4.cell (p := ⟨wr.heap.size, 0, none⟩) l3).trans e0
        have f1 := (hb4.cell (p := ⟨wr.heap.size, 1, none⟩) l3).trans e1
        have hs4 := hb4.size
        have HD4 := Lib.hid (HD3.out.below (by omega) hb4)
        clear e0 e1 hb4
        cases s with
        | true =>
          go_wp2_with fail
          go_roundw
          case rel => exact ⟨a, j + 1, kept, rfl, by simp, by omega, by omega, hka, by omega, Lib.hid ⟨HD4.out.skip, by rw [HTS.out]; simp⟩⟩
          case measure => simp [intOf]; omega
        | false =>
          obtain ⟨u0, hu0⟩ := Option.isSome_iff_exists.1 (HD4.out.shape.isSome (o := a * 2) (by omega))
          obtain ⟨u1, hu1⟩ := Option.isSome_iff_exists.1 (HD4.out.shape.isSome (o := a * 2 + 1) (by omega))
          have hf0 := HD4.out.shape.frozen (a * 2)
          have hf1 := HD4.out.shape.frozen (a * 2 + 1)
          have hk := HD4.out.keep hne hBg x (by omega) hjc
          rw [hka, HVI.out] at hk
          have HK := Lib.hid hk
          have HKA := Lib.hid hka
          clear hk hka
          go_wp2_with fail
          go_roundw
          case rel => exact ⟨a + 1, j + 1, kept ++ [x], by simp, by simp, by omega, by omega, by simp [HKA.out], by simpa using (by omega : w.heap.size ≤ w4.heap.size), Lib.hid ⟨HK.out, by rw [HTS.out]; simp⟩⟩
          case measure => simp [intOf]; omega
      · obtain rfl : j = ys.length := by omega
        have hth : wr.there g (a * 2) ((ys.length - a) * 2) := HR.out.1.shape.there (by omega)
        have hca : ¬ cv = a := by omega
        have ha0 : (0 : Int) ≤ (a : Int) := by omega
        have ha1 : (a : Int) ≤ (ys.length : Int) := by omega
        have ha2 : (a : Int) ≤ (cv : Int) := by omega
        have HPCS : Hid (∀ y ∈ ys, U32 y.pc) := Lib.hid HV.out.pc
        have hz1 : ∀ v ∈ (Value.agg #[.int .u32 0, .slice none 0 0]).cells.toList, v.oneCell' = true := fun v hv => by
          simp [Value.cells] at hv
          rcases hv with rfl | rfl <;> rfl
        go_wp2_with (first | (refine wpList_clear rfl _ 58 63 rfl ib _ 2 Try.underlying58 hib hb0 rfl hz1 g (a * 2) (ys.length - a) (cv - a) rfl hth ?_))
        intro zs hzs
        have hfin := HR.out.1.finish hne hBg (fun y hy => by rw [HR.out.2] at hy; exact List.mem_of_mem_take (List.mem_filter.1 hy).1) HPCS.out (by omega) (by unfold maxLen; omega) zs
        rw [hka] at hfin
        have HFIN := Lib.hid hfin
        have HKF : Hid (kept = ys.filter (fun x => !P x)) := Lib.hid (by rw [HR.out.2, List.take_length])
        clear hfin hth
        go_wp2_with fail
        go_ret
        exact ⟨⟨_, rfl, by rw [← HKF.out]; exact HFIN.out.1⟩, HFIN.out.2⟩
  · have hno : ∀ j (hj : j < ys.length), P ys[j] = false := fun j => by
      induction j using Nat.strongRecOn with
      | _ j ih =>
        intro hj
        cases e : P ys[j] with
        | false => rfl
        | true => exact absurd ⟨j, hj, e, fun i hi => ih i hi (by omega)⟩ hex
    rw [firstI_no hno] at HIX
    have hfe : ys.filter (fun x => !P x) = ys := List.filter_eq_self.2 (fun x hx => by
      obtain ⟨j, hj, rfl⟩ := List.mem_iff_getElem.1 hx
      rw [hno j hj]; rfl)
    rw [hfe]
    clear hno hfe hex
    go_enter Try.func77, Try.ntmps77
    go_wp2_with fail
    refine HIX.out.mono ?_
    rintro e w1 ⟨rfl, hb1'⟩
    have HB1 := Lib.hid hb1'
    clear hb1'
    go_wp2_with fail
    go_ret
    exact ⟨⟨_, rfl, HV.out.below HB1.out⟩, HB1.out.mono hB⟩
end Go.Proofs.Ytlfnddmncbkjaaa.W
