import Derived.Test.YtlfnddmncbkjaaaZWBack12a
import Derived.Test.YtlfnddmncbkjaaaZMA
set_option linter.unusedVariables false
set_option linter.unusedSimpArgs false
set_option maxRecDepth 100000
set_option maxHeartbeats 4000000
namespace Go.Proofs.Ytlfnddmncbkjaaa.W
open Go.RowKit Fb
theorem patch_nil (m : List Int) (f : Int) : patch m f [] = m := by unfold patch; simp
theorem patch_snoc {m : List Int} {k : Nat} {bs : List Int} {i : Nat} (hi : i < bs.length) (hk : k + bs.length ≤ m.length) : patch (patch m (k : Int) (bs.take i)) ((k + i : Nat) : Int) [bs[i]] = patch m (k : Int) (bs.take (i + 1)) := by
  have hti : (bs.take i).length = i := by rw [List.length_take]; omega
  have htk : (m.take k).length = k := by rw [List.length_take]; omega
  unfold patch
  rw [Int.toNat_natCast, Int.toNat_natCast, hti, List.length_singleton, List.take_succ_eq_append_getElem hi, List.length_append, hti, List.length_singleton]
  have h1 : (m.take k ++ bs.take i ++ m.drop (k + i)).take (k + i) = m.take k ++ bs.take i := by
    rw [List.take_append_of_le_length (by rw [List.length_append, htk, hti]; exact Nat.le_refl _), List.take_of_length_le (by rw [List.length_append, htk, hti]; exact Nat.le_refl _)]
  have h2 : (m.take k ++ bs.take i ++ m.drop (k + i)).drop (k + i + 1) = m.drop (k + (i + 1)) := by
    rw [List.drop_append, List.drop_of_length_le (by rw [List.length_append, htk, hti]; omega), List.nil_append, List.length_append, htk, hti, List.drop_drop]
    congr 1
    omega
  rw [h1, h2, List.append_assoc (m.take k) (bs.take i)]
theorem backL_next {ds : List UndoD} {m : Mach} {j : Nat} (h : j < ds.length) : backL (ds.drop j) m = backOne ds[j] (backL (ds.drop (j + 1)) m) := by
  unfold backL
  rw [List.drop_eq_getElem_cons h, List.foldr_cons]
theorem hflat_len : ∀ l : List Hart, (∀ x ∈ l, x.Wf) → (l.flatMap hlist).length = l.length * 37
  | [], _ => rfl
  | x :: r, hx => by
    rw [List.flatMap_cons, List.length_append, hlist_length (hx x (by simp)), hflat_len r (fun y hy => hx y (by simp [hy])), List.length_cons]
    omega
theorem ur_okz {w : World} {v : Value} {us : List UndD} {m : Mach} (h : UR w v us) {x : UndD} (hx : x ∈ us) (hf : fitsU m x.d = true) : UOk m w x := ⟨h.wf x hx, h.byt x hx, h.los x hx, h.rng x hx, hf⟩
theorem BI.byte {B nb bh hc Bs mb off cap : Nat} {w0 W : World} {m mc : Mach} (h : BI B nb bh hc Bs (.slice (some ⟨mb, off, none⟩) mc.mem.length cap) w0 W m mc) {f : Nat} {x : Int} (hf : f < mc.mem.length) (hx : 0 ≤ x ∧ x < 256) :
    BI B nb bh hc Bs (.slice (some ⟨mb, off, none⟩) mc.mem.length cap) w0 (W.setCell ⟨mb, off + f, none⟩ (.int .u8 x)) m { mc with mem := patch mc.mem (f : Int) [x] } := by
  have := (h.copy (f := (f : Int)) (bs := [x]) (by omega) (by simp; omega) (by intro y hy; rw [List.mem_singleton] at hy; subst hy; exact hx) (by simp)).1
  rw [Int.toNat_natCast] at this
  exact this
theorem back12_any (vm0 vh0 v : Value) (m : Mach) (wf : m.Wf) (us : List UndD) (steps : Int) (w : World) (hm : MachAt w vm0 vh0 m) (hu : UR w v us) (hst : i64ok steps) (hul : us.length ≤ 140737488355328) (hbn : ∀ x ∈ us, x.d.bytes.length ≤ 140737488355328 ∧ x.d.lost.length ≤ 140737488355328) :
    Calls Try.prog 26 #[.agg #[vm0, vh0], v, .int .i64 steps] w fun e w' => (∃ vm vh, e = .returned (.tuple #[.agg #[vm, vh], .int .i64 (backS m (us.map (·.d)) steps).2]) ∧ MachAt w' vm vh (backS m (us.map (·.d)) steps).1) ∧ Below w.heap.size w w' := by
  obtain ⟨aom, capm, rfl, hcm, hmm, _, _⟩ := hm.1.open
  obtain ⟨aoh, caph, rfl, hch, hmh, _, _⟩ := hm.2.open (fun h hh => hlist_length (wf.harts h hh)) (by omega)
  obtain ⟨ao, cap, rfl, hc, hmc, _, ho⟩ := Sl.open hu.row (fun x hx => ulist_len (hu.wf x hx).len) (by omega)
  unfold maxLen at hmm hmh hmc
  obtain ⟨w1, hw1⟩ : ∃ w1, w1 = (w.alloc (.cells #[.slice aom m.mem.length capm, .slice aoh m.harts.length caph] 25)).alloc (.cells #[.slice none 0 0, .slice none 0 0] 25) := ⟨_, rfl⟩
  have hb1 : Below w.heap.size w w1 := by rw [hw1]; exact Fb.blw
  have hs1 : w1.heap.size = w.heap.size + 2 := by rw [hw1]; simp
  have c0 : w1.cell? ⟨w.heap.size, 0, none⟩ = some (.slice aom m.mem.length capm) := by rw [hw1]; go_cell
  have c1 : w1.cell? ⟨w.heap.size, 1, none⟩ = some (.slice aoh m.harts.length caph) := by rw [hw1]; go_cell
  have HZ : Hid (w1.heap[w.heap.size + 1]? = some (.cells #[.slice none 0 0, .slice none 0 0] 25 (0, 0))) := Lib.hid (by
    have := heap_alloc_new (w.alloc (.cells #[.slice aom m.mem.length capm, .slice aoh m.harts.length caph] 25)) (.cells #[.slice none 0 0, .slice none 0 0] 25)
    rw [World.size_alloc] at this
    rw [hw1]; exact this)
  have HM := Lib.hid (hm.below hb1)
  have HU := Lib.hid hu
  have HO := Lib.hid ho
  have HMAY := Lib.hid (wrong_any _ _ (.slice none 0 0) m wf [] w1 (hm.below hb1) (Sl.nil _ _) (by intro p hp; cases hp))
  have HW1 := Lib.hid hw1
  have HB1 := Lib.hid hb1
  obtain ⟨R, hR⟩ : ∃ R, R = backS m (us.map (·.d)) steps := ⟨_, rfl⟩
  rw [← hR]
  have HR := Lib.hid hR
  have hsz5 : (Try.prog.info? 25).map (·.size) = some (#[.slice none 0 0, .slice none 0 0] : Array Value).size := by show _ = some 2; kernel_rfl
  have hall : (#[.slice none 0 0, .slice none 0 0] : Array Value).all (·.oneCell') = true := by simp [Value.oneCell']
  have HEND : Hid (∀ (W : World) (c : Int), Below w1.heap.size w1 W → R = (⟨[], []⟩, c) → W.there (w.heap.size + 1) 0 2 ∧ (loadVar 25 ⟨w.heap.size + 1, 0, none⟩).run Try.prog (W.setCells (w.heap.size + 1) 0 [.slice none 0 0, .slice none 0 0]) = .ok (.agg #[.slice none 0 0, .slice none 0 0]) (W.setCells (w.heap.size + 1) 0 [.slice none 0 0, .slice none 0 0]) ∧ ((∃ vm vh, (Ending.returned (.tuple #[.agg #[.slice none 0 0, .slice none 0 0], .int .i64 c])) = .returned (.tuple #[.agg #[vm, vh], .int .i64 R.2]) ∧ MachAt (W.setCells (w.heap.size + 1) 0 [.slice none 0 0, .slice none 0 0]) vm vh R.1) ∧ Below w.heap.size w (W.setCells (w.heap.size + 1) 0 [.slice none 0 0, .slice none 0 0]))) := Lib.hid (fun W c hW e => by
    have ht : W.there (w.heap.size + 1) 0 2 := there_blk ((hW.block (w.heap.size + 1) (by omega)).trans HZ.out) rfl
    refine ⟨ht, load_setCells (P := Try.prog) (cs := #[.slice none 0 0, .slice none 0 0]) ht Try.underlying25 rfl hsz5, ⟨_, _, by rw [e], ?_⟩, below_setCells (by omega) _ _ _ (HB1.out.trans (hW.mono (by omega)))⟩
    rw [e]
    exact (shown_nil _ 0).mach)
  have HBN := Lib.hid hbn
  have HPL := Lib.hid (fun W hW => play0_any (.slice aom m.mem.length capm) (.slice aoh m.harts.length caph) m wf W (hm.below hW))
  clear hw1 hm hu ho hb1 hR hbn
  go_enter Try.func26, Try.ntmps26
  go_upto_region 1 with (fail)
  rw [← HW1.out]
  go_wp2_with fail
  refine HMAY.out.mono ?_
  rintro e w2 ⟨rfl, hb2⟩
  by_cases hq : wrong m [] = 0
  · rw [hq]
    have hs2 := hb2.size
    have HB2 := Lib.hid hb2
    have HC0 := Lib.hid c0
    have HC1 := Lib.hid c1
    clear c0 c1 hb2
    go_wp2_with fail
    go_loopw [8] (fun i wr => ∃ q : Nat, i = .int .i64 q ∧ q ≤ us.length ∧ Hid (Below w1.heap.size w1 wr ∧ ∀ k (h : k < us.length), k < q → fitsU m us[k].d = true)) (fun i _ => us.length - (intOf i).toNat)
    case atStart => exact ⟨0, rfl, by omega, Lib.hid ⟨HB2.out, fun k _ h => absurd h (by omega)⟩⟩
    case round =>
      obtain ⟨q, rfl, hqn, HQ⟩ := hrel
      have hsr := HQ.out.1.size
      by_cases hlt : q < us.length
      · obtain ⟨b, off, rfl, hbl, hel⟩ := HO.out (by intro e; rw [e] at hlt; simp at hlt)
        have hx := List.getElem_mem hlt
        have hwf := HU.out.wf _ hx
        have hb0r : Below w.heap.size w wr := HB1.out.trans (HQ.out.1.mono HB1.out.size)
        have hat : At wr b (off + q * 41) (ulist us[q]).toArray.toList := (hel q hlt).below hb0r
        have hvb := HU.out.byt _ hx
        have hvl := HU.out.los _ hx
        have hrg := HU.out.rng _ hx
        have hbnx := HBN.out _ hx
        have HFA : Hid (fitsU m us[q].d = false → R = (⟨[], []⟩, 2)) := Lib.hid (fun hf => by
          rw [HR.out]
          unfold backS
          rw [if_pos hq, if_neg]
          intro h
          have := List.all_eq_true.1 h us[q].d (List.mem_map.2 ⟨_, hx, rfl⟩)
          rw [hf] at this
          cases this)
        have HNX : Hid (fitsU m us[q].d = true → ∀ k (h : k < us.length), k < q + 1 → fitsU m us[k].d = true) := Lib.hid (fun hf k h h2 => by
          rcases Nat.lt_or_ge k q with h3 | h3
          · exact HQ.out.2 k h h3
          · obtain rfl : k = q := by omega
            exact hf)
        obtain ⟨x, hxe⟩ : ∃ x, x = us[q] := ⟨_, rfl⟩
        rw [← hxe] at hwf hat hvb hvl hrg HFA HNX hbnx
        have hx41 : (ulist x).toArray.size = 41 := by rw [List.size_toArray, ulist_len hwf.len]
        have hszx : (Try.prog.info? 109).map (·.size) = some (ulist x).toArray.size := by rw [hx41]; kernel_rfl
        have e0 := (HQ.out.1.cell (p := ⟨w.heap.size, 0, none⟩) (by show w.heap.size < _; omega)).trans HC0.out
        have e1 := (HQ.out.1.cell (p := ⟨w.heap.size, 1, none⟩) (by show w.heap.size < _; omega)).trans HC1.out
        have HATM : Hid (At wr w.heap.size 0 [.slice aom m.mem.length capm, .slice aoh m.harts.length caph]) := Lib.hid (fun j hj => by
          match j, hj with
          | 0, _ => simpa using e0
          | 1, _ => simpa using e1
          | j + 2, hj => exact absurd hj (by simp))
        have i0 : (0 : Int) ≤ (q : Int) := by omega
        have i1 : (q : Int) < (us.length : Int) := by omega
        have hlw : w.heap.size < wr.heap.size := by omega
        have HATX := Lib.hid hat
        have HFT := Lib.hid (fun W (hW : Below wr.heap.size wr W) => fits12_any (.slice aom m.mem.length capm) (.slice aoh m.harts.length caph) m x W (HM.out.below (HQ.out.1.trans (hW.mono hsr))) (Sl.below hvl (hb0r.trans (hW.mono hb0r.size))) (Sl.below hvb (hb0r.trans (hW.mono hb0r.size))) hwf hrg wf.harts hbnx.1 hbnx.2)
        clear hel hxe hvb hvl hx hat hb0r e0 e1 hbnx
        go_wp2_with fail
        refine region_quiet_lit (fun W => Below wr.heap.size wr W) (by kernel_rfl) (by kernel_rfl) (Below.drew (Below.refl _ _)) ?_
        refine wpQuiet_load_at rfl 25 _ rfl w.heap.size 0 rfl #[.slice aom m.mem.length capm, .slice aoh m.harts.length caph] _ (fun W hW => HATM.out.below hW) Try.underlying25 rfl (by show _ = some 2; kernel_rfl) ?_
        iterate 3 quiet_step ((intro _; rfl))
        refine wpQuiet_load_at rfl 109 _ rfl b (off + q * 41) rfl (ulist x).toArray _ (fun W hW => HATX.out.below hW) Try.underlying109 rfl hszx ?_
        quiet_step ((intro hC; exact (HFT.out _ hC).mono (fun e w'' ⟨he, hb⟩ => ⟨he, hC.trans (hb.mono hC.size)⟩)))
        quiet_step ((intro _; rfl))
        refine wpQuiet_nil ?_
        intro w4 hb4
        have HB4 := Lib.hid (HQ.out.1.trans (hb4.mono hsr))
        clear hb4 hszx
        cases hf : fitsU m x.d with
        | true =>
          have HF := Lib.hid (HNX.out hf)
          clear hf
          go_wp2_with fail
          go_roundw
          case rel => exact ⟨q + 1, by simp, hlt, Lib.hid ⟨HB4.out, HF.out⟩⟩
          case measure => simp [intOf]; omega
        | false =>
          have he := HFA.out hf
          obtain ⟨ht, hld, hpost⟩ := HEND.out w4 2 HB4.out he
          have HP := Lib.hid hpost
          clear hpost he hf
          go_wp2_with (first | (refine wpList_store_mid rfl 25 _ _ rfl (w.heap.size + 1) 0 #[.slice none 0 0, .slice none 0 0] rfl rfl ht hsz5 hall ?_))
          refine bodyPost_ret (results_c1t (by rfl) _ (by rfl) hld) rfl ?_
          exact HP.out
      · obtain rfl : q = us.length := by omega
        have hall2 : (us.map (·.d)).all (fitsU m) = true := by
          rw [List.all_eq_true]
          intro u hu
          obtain ⟨x, hx, rfl⟩ := List.mem_map.1 hu
          obtain ⟨k, hk, rfl⟩ := List.mem_iff_getElem.1 hx
          exact HQ.out.2 k hk hk
        have HALL := Lib.hid hall2
        have HRS : Hid (R = if steps < 0 ∨ (us.length : Int) < steps then (⟨[], []⟩, 3) else (backL ((us.map (·.d)).drop (us.length - steps.toNat)) m, 0)) := Lib.hid (by
          rw [HR.out]
          unfold backS
          rw [if_pos hq, if_pos hall2, List.length_map])
        have HBR := Lib.hid HQ.out.1
        have e0 := (HBR.out.cell (p := ⟨w.heap.size, 0, none⟩) (by show w.heap.size < _; omega)).trans HC0.out
        have e1 := (HBR.out.cell (p := ⟨w.heap.size, 1, none⟩) (by show w.heap.size < _; omega)).trans HC1.out
        have HQQ := Lib.hid hq
        clear hall2 hq
        by_cases hneg : steps < 0
        · have he : R = (⟨[], []⟩, 3) := by rw [HRS.out, if_pos (.inl hneg)]
          obtain ⟨ht, hld, hpost⟩ := HEND.out wr 3 HBR.out he
          have HP := Lib.hid hpost
          clear hpost he e0 e1
          go_wp2_with (first | (refine wpList_store_mid rfl 25 _ _ rfl (w.heap.size + 1) 0 #[.slice none 0 0, .slice none 0 0] rfl rfl ht hsz5 hall ?_))
          refine bodyPost_ret (results_c1t (by rfl) _ (by rfl) hld) rfl ?_
          exact HP.out
        by_cases hbig : (us.length : Int) < steps
        · have he : R = (⟨[], []⟩, 3) := by rw [HRS.out, if_pos (.inr hbig)]
          obtain ⟨ht, hld, hpost⟩ := HEND.out wr 3 HBR.out he
          have HP := Lib.hid hpost
          clear hpost he e0 e1
          go_wp2_with (first | (refine wpList_store_mid rfl 25 _ _ rfl (w.heap.size + 1) 0 #[.slice none 0 0, .slice none 0 0] rfl rfl ht hsz5 hall ?_))
          refine bodyPost_ret (results_c1t (by rfl) _ (by rfl) hld) rfl ?_
          exact HP.out
        have HE0 : Hid (R = (backL ((us.map (·.d)).drop (us.length - steps.toNat)) m, 0)) := Lib.hid (by rw [HRS.out, if_neg (by omega)])
        obtain ⟨s, rfl⟩ := Int.eq_ofNat_of_zero_le (show 0 ≤ steps by omega)
        rw [Int.toNat_natCast] at HE0
        have hsl : s ≤ us.length := by omega
        obtain ⟨p1, p2, p3, p4, p5, p6⟩ := wrong_parts HQQ.out
        have HPW := Lib.hid (HPL.out wr (HB1.out.trans (HBR.out.mono HB1.out.size)) HQQ.out)
        clear HRS hneg p6 p4
        go_wp2_with fail
        refine HPW.out.mono ?_
        rintro e w3 ⟨⟨vm, bh, hc, rfl, hlay⟩, hb3⟩
        obtain ⟨am, cm, rfl⟩ := owns_slice hlay.own
        obtain ⟨nb, hnb⟩ : ∃ x, x = w3.heap.size := ⟨_, rfl⟩
        obtain ⟨w4, hw4⟩ : ∃ x, x = w3.alloc (.cells #[.slice am m.mem.length cm, .slice (some ⟨bh, 0, none⟩) m.harts.length hc] 25) := ⟨_, rfl⟩
        have HW4 := Lib.hid hw4
        have hb4 : Below w3.heap.size w3 w4 := by rw [hw4]; exact Below.alloc (Below.refl _ _) (Nat.le_refl _) _
        have hnbk : w4.heap[nb]? = some (.cells #[.slice am m.mem.length cm, .slice (some ⟨bh, 0, none⟩) m.harts.length hc] 25 (0, 0)) := by rw [hw4, hnb]; exact heap_alloc_new _ _
        have hs4 : nb + 1 = w4.heap.size := by rw [hw4, hnb]; simp
        have hs3 := hb3.size
        have hbel4 : Below w.heap.size w w4 := (HB1.out.trans (HBR.out.mono (by omega))).trans ((hb3.mono (by omega)).trans (hb4.mono (by omega)))
        have hvlt : ∀ q, (Value.slice am m.mem.length cm).ownBlock = some q → wr.heap.size ≤ q ∧ q < w3.heap.size := fun q e => hlay.own.lt q e
        have hown4 := owns_below hlay.own hb4
        have hlow := hlay.low
        have hlt3 := hlay.hlt
        have HBI : Hid (BI w.heap.size nb bh hc w.heap.size (.slice am m.mem.length cm) w w4 m m) := Lib.hid ⟨by unfold World.cell?; rw [hnbk]; rfl, by unfold World.cell?; rw [hnbk]; rfl, hlay.harts.below hb4, fun o => (hb4.frozen (p := ⟨bh, o, none⟩) hlt3).trans (hlay.hfz o), by have := owns_sl hown4; unfold Ints; exact this,
          fun hne q e => ⟨⟨by have := hvlt q e; omega, by have := hvlt q e; omega, fun e2 => hlay.ne (by rw [e, e2]), by have := hvlt q e; omega⟩, fun o => by
            rcases owns_open hown4 with ⟨_, h0, _⟩ | ⟨g, cap', hg1, _, _, _, _, _, hfz⟩
            · exact absurd (List.eq_nil_of_length_eq_zero h0) hne
            · rw [hg1] at e; cases e; exact hfz o⟩,
          ⟨by omega, by omega, by omega, by omega, by omega⟩, by omega, ⟨rfl, p2, p3⟩, ⟨rfl, p1⟩, wf, hlay.cap, hbel4⟩
        have HGEO : Hid (w.heap.size + 1 < bh ∧ w.heap.size + 1 < nb ∧ (∀ q, (Value.slice am m.mem.length cm).ownBlock = some q → w.heap.size + 1 < q) ∧ nb < w4.heap.size ∧ bh < w4.heap.size ∧ w.heap.size ≤ w4.heap.size ∧ ∀ q, (Value.slice am m.mem.length cm).ownBlock = some q → q < w4.heap.size) := Lib.hid ⟨by omega, by omega, fun q e => by have := hvlt q e; omega, by omega, by omega, by omega, fun q e => by have := hvlt q e; omega⟩
        have HZ4 : Hid (w4.heap[w.heap.size + 1]? = some (.cells #[.slice none 0 0, .slice none 0 0] 25 (0, 0))) := Lib.hid ((hb4.block _ (by omega)).trans ((hb3.block _ (by omega)).trans ((HBR.out.block _ (by omega)).trans HZ.out)))
        have hfld : (Instr.field 94 (.agg #[.slice am m.mem.length cm, .slice (some ⟨bh, 0, none⟩) m.harts.length hc, .slice none 0 0, .int .i64 0]) 0).run Try.prog w3 = .ok (.agg #[.slice am m.mem.length cm, .slice (some ⟨bh, 0, none⟩) m.harts.length hc]) w3 := by kernel_rfl
        have HML : Hid (m.mem.length ≤ 4096 ∧ 1 ≤ m.harts.length ∧ m.harts.length ≤ 4) := Lib.hid ⟨p1, p2, p3⟩
        clear hw4 hlay hb3 hb4 hnbk hs3 hbel4 hvlt hown4 hlow hlt3 e0 e1 HPW hs4
        go_upto_region 11 with (fail)
        rw [← HW4.out, ← hnb]
        clear hnb hfld
        go_wp2_with fail
        have HS := Lib.hid hsl
        go_loopw [10] (fun i wr => ∃ k : Nat, i = .int .i64 k ∧ k ≤ s ∧ Hid (BI w.heap.size nb bh hc w.heap.size (.slice am m.mem.length cm) w wr m (backL ((us.map (·.d)).drop (us.length - k)) m) ∧ w4.heap.size ≤ wr.heap.size ∧ wr.heap[w.heap.size + 1]? = some (.cells #[.slice none 0 0, .slice none 0 0] 25 (0, 0)))) (fun i _ => s - (intOf i).toNat)
        case atStart =>
          refine ⟨0, rfl, by omega, Lib.hid ⟨?_, Nat.le_refl _, HZ4.out⟩⟩
          rw [List.drop_of_length_le (by rw [List.length_map]; omega)]
          exact HBI.out
        case round =>
          obtain ⟨k, rfl, hks, HK⟩ := hrel
          by_cases hlt : k < s
          · have hsl := HS.out
            obtain ⟨j, hj⟩ := Int.eq_ofNat_of_zero_le (show 0 ≤ (us.length : Int) - 1 - (k : Int) by omega)
            have hjl : j < us.length := by omega
            obtain ⟨b, off, rfl, hbl, hel⟩ := HO.out (by intro e; rw [e] at hjl; simp at hjl)
            have hx := List.getElem_mem hjl
            obtain ⟨hwf, hvb, hvl, hrg, hfit⟩ := ur_okz HU.out hx (List.all_eq_true.1 HALL.out _ (List.mem_map.2 ⟨_, hx, rfl⟩))
            have hbnx := HBN.out _ hx
            have hat : At wr b (off + j * 41) (ulist us[j]).toArray.toList := (hel j hjl).below HK.out.1.bel
            have HNXT : Hid (backL ((us.map (·.d)).drop (us.length - (k + 1))) m = backOne us[j].d (backL ((us.map (·.d)).drop (us.length - k)) m)) := Lib.hid (by
              have e := backL_next (ds := us.map (·.d)) (m := m) (j := j) (by rw [List.length_map]; exact hjl)
              rw [List.getElem_map] at e
              rw [show us.length - (k + 1) = j by omega, show us.length - k = j + 1 by omega]
              exact e)
            obtain ⟨xu, hxe⟩ : ∃ x, x = us[j] := ⟨_, rfl⟩
            rw [← hxe] at hwf hat hvb hvl hrg hfit hbnx HNXT
            obtain ⟨mc, hmc⟩ : ∃ x, x = backL ((us.map (·.d)).drop (us.length - k)) m := ⟨_, rfl⟩
            rw [← hmc] at HK HNXT
            have hx41 : (ulist xu).toArray.size = 41 := by rw [List.size_toArray, ulist_len hwf.len]
            have hszx : (Try.prog.info? 109).map (·.size) = some (ulist xu).toArray.size := by rw [hx41]; kernel_rfl
            have hox : ∀ u ∈ (ulist xu).toArray.toList, u.oneCell' = true := ulist_one (Ints.one (l := xu.d.bytes) hvb) (by
              obtain ⟨a1, c1, e1, -⟩ := Sl.open (f := llist) hvl (fun _ _ => rfl) (by omega)
              rw [e1]; rfl)
            obtain ⟨Bx, hBx⟩ : ∃ x, x = wr.heap.size := ⟨_, rfl⟩
            obtain ⟨W, hW⟩ : ∃ x, x = wr.alloc (.cells (ulist xu).toArray 109) := ⟨_, rfl⟩
            have hbW : Below wr.heap.size wr W := by rw [hW]; exact Below.alloc (Below.refl _ _) (Nat.le_refl _) _
            have hblk : W.heap[Bx]? = some (.cells (ulist xu).toArray 109 (0, 0)) := by rw [hW, hBx]; exact heap_alloc_new _ _
            have hsW : Bx + 1 = W.heap.size := by rw [hW, hBx]; simp
            have HW := Lib.hid hW
            obtain ⟨hk1, hk2, hk3⟩ := HK.out
            have hgeo := HGEO.out
            have HBIW : Hid (BI w.heap.size nb bh hc w.heap.size (.slice am m.mem.length cm) w W m mc) := Lib.hid (hk1.keep (fun q hq => hbW.block q (by
              rcases hq with rfl | rfl | ⟨h1, h2⟩
              · omega
              · omega
              · have := hgeo.2.2.2.2.2.2 q h2; omega)) hbW.size (hk1.bel.trans (hbW.mono (by omega))))
            have HZW : Hid (W.heap[w.heap.size + 1]? = some (.cells #[.slice none 0 0, .slice none 0 0] 25 (0, 0))) := Lib.hid ((hbW.block _ (by omega)).trans hk3)
            have HXG : Hid (Bx < W.heap.size ∧ w4.heap.size ≤ Bx ∧ w4.heap.size ≤ W.heap.size) := Lib.hid ⟨by omega, by omega, by omega⟩
            have i0 : (0 : Int) ≤ (j : Int) := by omega
            have i1 : (j : Int) < (us.length : Int) := by omega
            have hul2 : us.length ≤ 140737488355328 := hul
            have HBX := Lib.hid hBx
            have HJ := Lib.hid (And.intro hj hjl)
            clear hW hk1 hk2 hk3 hbW hgeo hel hxe hmc hx hBx hsW
            have hat2 : At wr b (off + (us.length - 1 - k) * 41) (ulist xu).toArray.toList := by rw [show us.length - 1 - k = j by omega]; exact hat
            clear hat
            clear hj hjl
            go_upto_region 15 with (first | (refine wpList_load_at rfl 109 _ rfl b (off + (us.length - 1 - k) * 41) rfl (ulist xu).toArray _ hat2 Try.underlying109 rfl hszx ?_) | (refine wpList_store_new rfl 109 _ _ rfl wr _ (ulist xu).toArray rfl rfl rfl hszx (by rw [hx41]; rfl) hox ?_))
            rw [← HW.out, ← HBX.out]
            unfold fitsU inH at hfit
            simp only [Bool.and_eq_true, List.all_eq_true, decide_eq_true_eq] at hfit
            obtain ⟨hlo, ⟨⟨hk0, hk1⟩, -⟩, hfb⟩ := hfit
            obtain ⟨kx, hkx⟩ := Int.eq_ofNat_of_zero_le hk0
            rw [hkx] at hk1
            have hub := ulist_at hwf.len (show At W Bx 0 (ulist xu) from fun j hj => by
              simp only [World.cell?, hblk, Nat.zero_add, List.getElem?_toArray]
              exact List.getElem?_eq_getElem hj)
            simp only [Nat.zero_add] at hub
            obtain ⟨x0, x1, x38, x39, x40⟩ := hub
            rw [hkx] at x0
            have hl1 := HBIW.out.len1.1
            have y1 := HBIW.out.c1
            have hkm : kx < mc.harts.length := by omega
            obtain ⟨HB1', hth⟩ := HBIW.out.hart (k := kx) hwf hkm
            have hszh : (Try.prog.info? 86).map (·.size) = some (hcells xu.d.was).size := by rw [hcells_size hwf]; kernel_rfl
            have honeh : (hcells xu.d.was).all (·.oneCell') = true := Array.all_eq_true_iff_forall_mem.2 (fun v hv => hlist_one xu.d.was v (by simpa using hv))
            have j0 : (0 : Int) ≤ (kx : Int) := by omega
            have j1 : (kx : Int) < (mc.harts.length : Int) := by omega
            have x1' : At W Bx 1 (hcells xu.d.was).toList := by simpa [hcells] using x1
            have HL1 := Lib.hid (And.intro hl1 hkx)
            have HKK := Lib.hid hk1
            have HX := Lib.hid (And.intro x38 (And.intro x39 x40))
            clear hat2 hox hszx hl1 hkx hk0 hk1 x38 x39 x40 x1 i0 i1 hul2
            go_upto_region 16 with (first | (refine wpList_load_at rfl 86 _ rfl Bx 1 rfl (hcells xu.d.was) _ x1' Try.underlying86 rfl hszh ?_) | (refine wpList_store_mid rfl 86 _ _ rfl bh (kx * 37) (hcells xu.d.was) rfl rfl hth hszh honeh ?_))
            have HBI1 := Lib.hid HB1'
            obtain ⟨W1, hW1⟩ : ∃ x, x = W.setCells bh (kx * 37) (hcells xu.d.was).toList := ⟨_, rfl⟩
            have hr1 : ∀ q, q ≠ bh → W1.heap[q]? = W.heap[q]? := by rw [hW1]; exact fun q hq => heap_setCells hq _ _ _
            have hz1 : W1.heap.size = W.heap.size := by rw [hW1, size_setCells]
            rw [← hW1] at HBI1 ⊢
            obtain ⟨xg1, xg2, xg3⟩ := HXG.out
            obtain ⟨gg1, gg2, gg3, gg4, gg5, gg6, gg7⟩ := HGEO.out
            have HR1 : Hid (w4.heap.size ≤ W1.heap.size ∧ W1.heap[w.heap.size + 1]? = some (.cells #[.slice none 0 0, .slice none 0 0] 25 (0, 0)) ∧ W1.heap[Bx]? = some (.cells (ulist xu).toArray 109 (0, 0))) := Lib.hid ⟨by omega, (hr1 _ (by omega)).trans HZW.out, (hr1 Bx (by omega)).trans hblk⟩
            clear hW1 hr1 hz1 x0 x1' y1 hth hszh honeh HB1' j0 j1 hblk xg1 xg2 xg3 gg1 gg2 gg3 gg4 gg5 gg6 gg7
            obtain ⟨f, hf⟩ : ∃ f, f = xu.d.frm := ⟨_, rfl⟩
            obtain ⟨bs, hbs⟩ : ∃ f, f = xu.d.bytes := ⟨_, rfl⟩
            obtain ⟨bl, hbl2⟩ : ∃ f, f = bs.length := ⟨_, rfl⟩
            obtain ⟨ml, hml⟩ : ∃ f, f = m.mem.length := ⟨_, rfl⟩
            obtain ⟨hm1, hm2⟩ := hrg.2
            have hrb := hm2.1
            have hbn1 := hbnx.1
            rw [← hf] at hfb hm1
            rw [← hbs] at hvb hfb hrb hbn1
            rw [← hbl2, ← hml] at hfb
            rw [← hbl2] at hbn1
            have HFB := Lib.hid (And.intro hf hbs)
            have HX2 : Hid ((ulist xu)[38]? = some (.int .u32 f) ∧ (ulist xu)[39]? = some xu.vb ∧ (ulist xu)[40]? = some xu.vl) := Lib.hid (by
              have hl := hwf.len
              have h37 := hlist_len hl
              unfold ulist
              refine ⟨?_, ?_, ?_⟩
              all_goals
                simp only [List.getElem?_cons_succ]
                rw [List.getElem?_append_right (by rw [h37]; omega), h37]
                first | rw [hf]; rfl | rfl)
            obtain ⟨ab1, cb1, hvbe, hcb1, hcb2, -, hbo⟩ := Ints.open (l := bs) hvb
            rw [← hbl2] at hvbe
            obtain ⟨fn, hfn⟩ := Int.eq_ofNat_of_zero_le hm1.1
            subst hfn
            have HML2 : Hid (ml ≤ 4096) := Lib.hid (by have := HML.out; omega)
            have HRB := Lib.hid hrb
            have HRG := Lib.hid hrg
            have HBO := Lib.hid hbo
            have HMQ : Hid (mc.mem.length = ml ∧ ml = m.mem.length) := Lib.hid ⟨HBIW.out.len2.1.trans hml.symm, hml⟩
            have HBLE := Lib.hid hbl2
            have HLO := Lib.hid hlo
            have HVL := Lib.hid hvl
            have HBNL := Lib.hid hbnx.2
            clear hf hbs hm2 hrb hrg hvb hbo hcb1 hcb2 hml hbl2 hlo hvl hbnx hkm
            go_upto_region 17 with (fail)
            go_loopw [12] (fun i wl => ∃ q : Nat, i = .int .i64 q ∧ q ≤ bl ∧ Hid (BI w.heap.size nb bh hc w.heap.size (.slice am m.mem.length cm) w wl m ⟨patch mc.mem (fn : Int) (bs.take q), mc.harts.set kx xu.d.was⟩ ∧ w4.heap.size ≤ wl.heap.size ∧ wl.heap[w.heap.size + 1]? = some (.cells #[.slice none 0 0, .slice none 0 0] 25 (0, 0)) ∧ wl.heap[Bx]? = some (.cells (ulist xu).toArray 109 (0, 0)))) (fun i _ => bl - (intOf i).toNat)
            case atStart =>
              refine ⟨0, rfl, Nat.zero_le _, Lib.hid ⟨?_, HR1.out⟩⟩
              rw [List.take_zero, patch_nil]
              exact HBI1.out
            case round =>
              obtain ⟨q, rfl, hql, HQ⟩ := hrel
              have y39 : wr.cell? ⟨Bx, 39, none⟩ = some (.slice ab1 bl cb1) := by
                rw [← hvbe]
                unfold World.cell?
                rw [HQ.out.2.2.2]
                simpa using HX2.out.2.1
              by_cases hqb : q < bl
              · have y38 : wr.cell? ⟨Bx, 38, none⟩ = some (.int .u32 fn) := by
                  unfold World.cell?
                  rw [HQ.out.2.2.2]
                  simpa using HX2.out.1
                have hb1 : q < bs.length := by have := HBLE.out; omega
                have hmln := HMQ.out
                have hml2 := HML2.out
                obtain ⟨b2, off2, rfl, hb2l, hb2x⟩ := HBO.out (by intro e; rw [e] at hb1; simp at hb1)
                have hsrc : wr.cell? ⟨b2, off2 + q, none⟩ = some (.int .u8 bs[q]) := by
                  have h9 := hb2x q hb1
                  rw [List.getD_eq_getElem?_getD, List.getElem?_eq_getElem hb1] at h9
                  exact (HQ.out.1.bel.cell (p := ⟨b2, off2 + q, none⟩) hb2l).trans h9
                have hpl : (patch mc.mem (fn : Int) (bs.take q)).length = ml := by
                  rw [patch_len (by omega) (by rw [List.length_take]; omega)]
                  exact hmln.1
                obtain ⟨am', cm', hvm', hcm1, hcm2, -, hmo⟩ := HQ.out.1.bytes.open
                injection hvm' with e1 e2 e3
                subst e1 e3
                simp only at hmo hcm1
                obtain ⟨mb, off, rfl, hmbl, hmx⟩ := hmo (by intro e; rw [e] at hpl; simp at hpl; omega)
                have hdst : (wr.cell? ⟨mb, off + (fn + q), none⟩).isSome = true := by
                  rw [hmx (fn + q) (by rw [hpl]; omega)]; rfl
                have hfz := (HQ.out.1.mfz (by intro e; simp only at e; rw [e] at hpl; simp at hpl; omega) mb rfl).2 (off + (fn + q))
                have v0 := HQ.out.1.c0
                rw [hpl] at hcm1
                rw [← hmln.2] at v0
                obtain ⟨dv, hdv⟩ := Option.isSome_iff_exists.1 hdst
                have HNB : Hid (BI w.heap.size nb bh hc w.heap.size (.slice (some ⟨mb, off, none⟩) m.mem.length cm) w (wr.setCell ⟨mb, off + (fn + q), none⟩ (.int .u8 bs[q])) m ⟨patch mc.mem (fn : Int) (bs.take (q + 1)), mc.harts.set kx xu.d.was⟩) := Lib.hid (by
                  have hin := HQ.out.1
                  have hle : m.mem.length = (⟨patch mc.mem (fn : Int) (bs.take q), mc.harts.set kx xu.d.was⟩ : Mach).mem.length := by rw [← hmln.2]; exact hpl.symm
                  rw [hle] at hin
                  have := hin.byte (f := fn + q) (x := bs[q]) (by show _ < (patch mc.mem (fn : Int) (bs.take q)).length; rw [hpl]; omega) (HRB.out _ (List.getElem_mem hb1))
                  rw [← hle] at this
                  simp only at this
                  rw [patch_snoc hb1 (by rw [hmln.1]; have := HBLE.out; omega)] at this
                  exact this)
                have HMB : Hid (mb ≠ Bx ∧ mb ≠ w.heap.size + 1) := Lib.hid (by
                  have h1 := HGEO.out.2.2.1 mb rfl
                  have h2 := HGEO.out.2.2.2.2.2.2 mb rfl
                  have h3 := HXG.out
                  exact ⟨by omega, by omega⟩)
                have i0 : (0 : Int) ≤ (fn : Int) + (q : Int) := by omega
                have i1 : (fn : Int) + (q : Int) < (ml : Int) := by omega
                have i2 : (0 : Int) ≤ (q : Int) := by omega
                have i3 : (q : Int) < (bl : Int) := by omega
                clear hb2x hmo hmx hdst hmln hpl e2
                go_wp2_with fail
                go_region
                go_wp2_with fail
                go_roundw
                case rel =>
                  obtain ⟨x1, x2⟩ := HMB.out
                  refine ⟨q + 1, by simp, hqb, Lib.hid ⟨HNB.out.keep (fun _ _ => rfl) (Nat.le_refl _) HNB.out.bel.drew, ?_, ?_, ?_⟩⟩
                  · have := HQ.out.2.1
                    show _ ≤ (World.setCell _ _ _).heap.size
                    simpa [World.setCell] using this
                  · exact (Below.heap_setCell _ _ _ _ (by show w.heap.size + 1 ≠ mb; omega)).trans HQ.out.2.2.1
                  · exact (Below.heap_setCell _ _ _ _ (by show Bx ≠ mb; omega)).trans HQ.out.2.2.2
                case measure => simp [intOf]; omega
              · obtain rfl : q = bl := by omega
                have hq4 := HQ.out
                rw [show bs.take q = bs by rw [HBLE.out, List.take_length]] at hq4
                obtain ⟨al, cl, hvle, hcl1, hcl2, -, hol⟩ := Sl.open (f := llist) HVL.out (fun _ _ => rfl) (by omega)
                obtain ⟨ll, hll⟩ : ∃ x : Nat, x = xu.d.lost.length := ⟨_, rfl⟩
                rw [← hll] at hvle
                have hlln := HBNL.out
                rw [← hll] at hlln
                have HOL := Lib.hid hol
                have HLL := Lib.hid hll
                have HQ4 := Lib.hid hq4
                have HVLE := Lib.hid hvle
                clear hol hll hq4 hcl1 hcl2 hvle
                go_wp2_with fail
                clear y39
                go_loopw [13] (fun i wl => ∃ n : Nat, i = .int .i64 n ∧ n ≤ ll ∧ Hid (BI w.heap.size nb bh hc w.heap.size (.slice am m.mem.length cm) w wl m ⟨patch mc.mem (fn : Int) bs, resets (xu.d.lost.take n) (mc.harts.set kx xu.d.was)⟩ ∧ w4.heap.size ≤ wl.heap.size ∧ wl.heap[w.heap.size + 1]? = some (.cells #[.slice none 0 0, .slice none 0 0] 25 (0, 0)) ∧ wl.heap[Bx]? = some (.cells (ulist xu).toArray 109 (0, 0)))) (fun i _ => ll - (intOf i).toNat)
                case atStart => exact ⟨0, rfl, Nat.zero_le _, Lib.hid HQ4.out⟩
                case round =>
                  obtain ⟨n, rfl, hnl, HN⟩ := hrel
                  have y40 : wr.cell? ⟨Bx, 40, none⟩ = some (.slice al ll cl) := by
                    rw [← HVLE.out]
                    unfold World.cell?
                    rw [HN.out.2.2.2]
                    simpa using HX2.out.2.2
                  by_cases hnb : n < ll
                  · have hlq2 : n < xu.d.lost.length := by have := HLL.out; omega
                    obtain ⟨b3, off3, rfl, hbl3, hel3⟩ := HOL.out (by intro e; rw [e] at hlq2; simp at hlq2)
                    have hat3 := (hel3 n hlq2).of_lt HN.out.1.bel hbl3
                    have d0 := hat3.get (j := 0) (v := .int .i64 xu.d.lost[n].1) rfl
                    have d1 := hat3.get (j := 1) (v := .int .u32 xu.d.lost[n].2) rfl
                    simp only [Nat.add_zero] at d0
                    have hpl := HLO.out _ (List.getElem_mem hlq2)
                    have hpr := HRG.out.2.2.2 _ (List.getElem_mem hlq2)
                    have HTK : Hid (xu.d.lost.take (n + 1) = xu.d.lost.take n ++ [xu.d.lost[n]]) := Lib.hid (List.take_succ_eq_append_getElem hlq2)
                    obtain ⟨p, hpe⟩ : ∃ p, p = xu.d.lost[n] := ⟨_, rfl⟩
                    rw [← hpe] at d0 d1 hpl hpr HTK
                    clear hpe hat3 hel3 hlq2
                    obtain ⟨pj, pa⟩ := p
                    simp only at d0 d1 hpl hpr
                    obtain ⟨jj, rfl⟩ := Int.eq_ofNat_of_zero_le hpl.1
                    obtain ⟨rs, hrs⟩ : ∃ x, x = resets (xu.d.lost.take n) (mc.harts.set kx xu.d.was) := ⟨_, rfl⟩
                    have HBIQ : Hid (BI w.heap.size nb bh hc w.heap.size (.slice am m.mem.length cm) w wr m ⟨patch mc.mem (fn : Int) bs, rs⟩) := Lib.hid (by rw [hrs]; exact HN.out.1)
                    have HRS := Lib.hid hrs
                    have hlen1 : rs.length = m.harts.length := HBIQ.out.len1.1
                    have hjr : jj < rs.length := by omega
                    have v1 : wr.cell? ⟨nb, 1, none⟩ = some (.slice (some ⟨bh, 0, none⟩) rs.length hc) := HBIQ.out.c1
                    have hat37 := at_hart HBIQ.out.harts (fun y hy => hlist_length (HBIQ.out.wf.harts y hy)) hjr
                    have wfj := HBIQ.out.wf.harts _ (List.getElem_mem hjr)
                    have c33 := hat37.get (hlist_held wfj)
                    have c34 := hat37.get (hlist_heldAt wfj)
                    have q33 := HBIQ.out.hfz (jj * 37 + 33)
                    have q34 := HBIQ.out.hfz (jj * 37 + 34)
                    have i0 : (0 : Int) ≤ (n : Int) := by omega
                    have i1 : (n : Int) < (ll : Int) := by omega
                    have j0 : (0 : Int) ≤ (jj : Int) := by omega
                    have j1 : (jj : Int) < (rs.length : Int) := by omega
                    have hne2 : nb ≠ bh := HBIQ.out.geo.2.2.1
                    have hnx : Bx ≠ bh := by have := HGEO.out; have := HXG.out; omega
                    have hb3 : b3 ≠ bh := by have := HBIQ.out.geo.1; omega
                    obtain ⟨oh, hoh⟩ : ∃ x, x = rs[jj].held := ⟨_, rfl⟩
                    obtain ⟨oa, hoa⟩ : ∃ x, x = rs[jj].heldAt := ⟨_, rfl⟩
                    rw [← hoh] at c33
                    rw [← hoa] at c34
                    have HFX := Lib.hid (And.intro d0 (And.intro d1 (And.intro v1 (And.intro y40 (And.intro c34 q34)))))
                    have HPR := Lib.hid hpr.2
                    have HJ := Lib.hid hjr
                    clear hat37 wfj hpl hpr hlen1 hjr hrs hoh hoa d1 c34 q34
                    go_wp2_with fail
                    go_region
                    obtain ⟨w5, hw5⟩ : ∃ x, x = (wr.setCell ⟨bh, jj * 37 + 33, none⟩ (.bool true)).drew := ⟨_, rfl⟩
                    rw [← hw5]
                    have hk5 : ∀ g o, g ≠ bh → w5.cell? ⟨g, o, none⟩ = wr.cell? ⟨g, o, none⟩ := fun g o hg => by rw [hw5]; exact World.cell?_setCell_other _ _ _ _ (by intro e; injection e with e2 _; omega)
                    have d0' := (hk5 b3 _ hb3).trans HFX.out.1
                    have d1' := (hk5 b3 _ hb3).trans HFX.out.2.1
                    have v1' := (hk5 nb _ hne2).trans HFX.out.2.2.1
                    have y40' := (hk5 Bx _ hnx).trans HFX.out.2.2.2.1
                    have c34' : w5.cell? ⟨bh, jj * 37 + 34, none⟩ = some (.int .u32 oa) := by rw [hw5]; exact (World.cell?_setCell_other _ _ _ _ (by intro e; injection e with _ e2; omega)).trans HFX.out.2.2.2.2.1
                    have q34' : w5.frozen? ⟨bh, jj * 37 + 34, none⟩ = false := by rw [hw5]; exact (World.frozen?_setCell _ _ _ _).trans HFX.out.2.2.2.2.2
                    have HW5 := Lib.hid hw5
                    clear d0 v1 y40 c33 q33 hw5 hk5
                    go_wp2_with fail
                    go_region
                    go_wp2_with fail
                    go_roundw
                    case rel =>
                      obtain ⟨xg1, xg2, xg3⟩ := HXG.out
                      obtain ⟨gg1, gg2, gg3, gg4, gg5, gg6, gg7⟩ := HGEO.out
                      have h9 := HBIQ.out.reset HPR.out HJ.out
                      have hkz : ∀ g, g ≠ bh → ((w5.setCell ⟨bh, jj * 37 + 34, none⟩ (.int .u32 pa)).drew).heap[g]? = wr.heap[g]? := fun g hg => by
                        rw [HW5.out]
                        exact (Below.heap_setCell _ _ _ _ (by show g ≠ bh; exact hg)).trans (Below.heap_setCell _ _ _ _ (by show g ≠ bh; exact hg))
                      refine ⟨n + 1, by simp, hnb, Lib.hid ⟨?_, ?_, (hkz _ (by omega)).trans HN.out.2.2.1, (hkz _ (by omega)).trans HN.out.2.2.2⟩⟩
                      · rw [HTK.out, resets_append, ← HRS.out, HW5.out]
                        have hke : ((wr.setCell ⟨bh, jj * 37 + 33, none⟩ (.bool true)).drew.setCell ⟨bh, jj * 37 + 34, none⟩ (.int .u32 pa)).drew.heap = ((wr.setCell ⟨bh, jj * 37 + 33, none⟩ (.bool true)).setCell ⟨bh, jj * 37 + 34, none⟩ (.int .u32 pa)).heap := rfl
                        exact h9.keep (fun g _ => by rw [hke]) (by rw [hke]; exact Nat.le_refl _) (((HN.out.1.bel.setCell (p := ⟨bh, jj * 37 + 33, none⟩) HBIQ.out.geo.1 (.bool true)).drew.setCell (p := ⟨bh, jj * 37 + 34, none⟩) HBIQ.out.geo.1 (.int .u32 pa)).drew)
                      · have := HN.out.2.1
                        rw [HW5.out]
                        show _ ≤ ((World.setCell _ _ _).setCell _ _).heap.size
                        simpa [World.setCell] using this
                    case measure => simp [intOf]; omega
                  · obtain rfl : n = ll := by omega
                    have hq5 := HN.out
                    rw [show xu.d.lost.take n = xu.d.lost by rw [HLL.out, List.take_length]] at hq5
                    have HQ5 := Lib.hid hq5
                    clear hq5
                    go_wp2_with fail
                    go_roundw
                    case rel =>
                      refine ⟨k + 1, by simp, hlt, Lib.hid ⟨?_, HQ5.out.2.1, HQ5.out.2.2.1⟩⟩
                      rw [HNXT.out]
                      have e : backOne xu.d mc = ⟨patch mc.mem (fn : Int) bs, resets xu.d.lost (mc.harts.set kx xu.d.was)⟩ := by
                        unfold backOne
                        rw [HL1.out.2, Int.toNat_natCast, ← HFB.out.1, ← HFB.out.2]
                      rw [e]
                      exact HQ5.out.1
                    case measure => simp [intOf]; omega
          · obtain rfl : k = s := by omega
            obtain ⟨mF, hmF⟩ : ∃ x, x = backL ((us.map (·.d)).drop (us.length - k)) m := ⟨_, rfl⟩
            have hRF : R = (mF, 0) := by rw [HE0.out, hmF]
            rw [← hmF] at HK
            obtain ⟨hBI, hsz5, hzb⟩ := HK.out
            have y0 := hBI.c0
            have y1 := hBI.c1
            have ht : wr.there (w.heap.size + 1) 0 2 := there_blk hzb rfl
            have hszF : (Try.prog.info? 25).map (·.size) = some (#[.slice am m.mem.length cm, .slice (some ⟨bh, 0, none⟩) mF.harts.length hc] : Array Value).size := by show _ = some 2; kernel_rfl
            have hallF : (#[.slice am m.mem.length cm, .slice (some ⟨bh, 0, none⟩) mF.harts.length hc] : Array Value).all (·.oneCell') = true := by simp [Value.oneCell']
            have htF : wr.there (w.heap.size + 1) 0 (#[.slice am m.mem.length cm, .slice (some ⟨bh, 0, none⟩) mF.harts.length hc] : Array Value).size := ht
            have hld := load_setCells (P := Try.prog) (cs := #[.slice am m.mem.length cm, .slice (some ⟨bh, 0, none⟩) mF.harts.length hc]) ht Try.underlying25 rfl hszF
            have HLD := Lib.hid hld
            have HBF := Lib.hid hBI
            have HRF := Lib.hid hRF
            clear hmF hRF hBI hzb ht hld
            go_wp2_with (first | (refine wpList_store_mid rfl 25 _ _ rfl (w.heap.size + 1) 0 #[.slice am m.mem.length cm, .slice (some ⟨bh, 0, none⟩) mF.harts.length hc] rfl rfl htF hszF hallF ?_))
            refine bodyPost_ret (results_c1t (by rfl) _ (by rfl) HLD.out) rfl ?_
            have hg := HGEO.out
            have hbiF : BI w.heap.size nb bh hc w.heap.size (.slice am m.mem.length cm) w (wr.setCells (w.heap.size + 1) 0 [.slice am m.mem.length cm, .slice (some ⟨bh, 0, none⟩) mF.harts.length hc]) m mF := HBF.out.keep (fun g hgq => by
              refine heap_setCells ?_ _ _ _
              rcases hgq with rfl | rfl | ⟨_, h2⟩
              · omega
              · omega
              · have := hg.2.2.1 g h2; omega) (by rw [size_setCells]; exact Nat.le_refl _) (below_setCells (by omega) _ _ _ HBF.out.bel)
            rw [HRF.out]
            exact ⟨⟨_, _, rfl, hbiF.bytes, Sl.mk hbiF.harts (hflat_len mF.harts hbiF.wf.harts) hbiF.hcap.1 hbiF.hcap.2⟩, hbiF.bel⟩
  · obtain ⟨qq, hqq⟩ : ∃ q, q = wrong m [] := ⟨_, rfl⟩
    rw [← hqq] at hq ⊢
    have he : R = (⟨[], []⟩, 2) := by rw [HR.out]; unfold backS; rw [← hqq, if_neg hq]
    obtain ⟨ht, hld, hpost⟩ := HEND.out w2 2 hb2 he
    have HP := Lib.hid hpost
    clear hpost he hb2 c0 c1
    go_wp2_with (first | (refine wpList_store_mid rfl 25 _ _ rfl (w.heap.size + 1) 0 #[.slice none 0 0, .slice none 0 0] rfl rfl ht hsz5 hall ?_))
    refine bodyPost_ret (results_c1t (by rfl) _ (by rfl) hld) rfl ?_
    exact HP.out
end Go.Proofs.Ytlfnddmncbkjaaa.W
