/- image.Get, walked. -/
import Derived.Test.YtlfnddmncbkjaaaZWRdHart
import Derived.Test.YtlfnddmncbkjaaaZWBegin
import Derived.Test.YtlfnddmncbkjaaaZWMachMay
import Derived.Test.YtlfnddmncbkjaaaZMB
import Derived.Test.YtlfnddmncbkjaaaZMA
namespace Go.Proofs.Ytlfnddmncbkjaaa.W
set_option linter.unusedVariables false
set_option linter.unusedSimpArgs false
open Go.RowKit Fb
theorem take_s (rp : Nat) (s : Rd) (n : Nat) (w : World) (h : RdAt rp w s) (hn : n < 4294967296) :
    Calls Try.prog 62 #[.pointer (some ⟨rp, 0, none⟩), .int .u32 n] w fun e w' => (∃ v, e = .returned v ∧ Ints .u8 w' v (takeR n s).1) ∧ RdAt rp w' (takeR n s).2 ∧ Chg (fun p => p.block = rp) w w' := take_any rp s.1 s.2 n w h hn
theorem build_hart1 (x : Hart) (wf : x.regs.length = 32) (w : World) : (Instr.buildSlice 23 1 #[(0, .agg (hcells x))]).run Try.prog w = .ok (.slice (some ⟨w.heap.size, 0, none⟩) 1 1) (w.alloc (.cells (hcells x) 86)) := by
  obtain ⟨regs, pc, held, heldAt, state, cause⟩ := x
  obtain ⟨a0, a1, a2, a3, a4, a5, a6, a7, a8, a9, a10, a11, a12, a13, a14, a15, a16, a17, a18, a19, a20, a21, a22, a23, a24, a25, a26, a27, a28, a29, a30, a31, rfl⟩ := list32b wf
  kernel_rfl
theorem fold_hart1 (x : Hart) (wf : x.regs.length = 32) : Array.foldl (fun (cs : Array Value) (y : Value × Nat) => cs.setIfInBounds y.snd y.fst) #[.int .u32 0, .int .u32 0, .int .u32 0, .int .u32 0, .int .u32 0, .int .u32 0, .int .u32 0, .int .u32 0, .int .u32 0, .int .u32 0, .int .u32 0, .int .u32 0, .int .u32 0, .int .u32 0, .int .u32 0, .int .u32 0, .int .u32 0, .int .u32 0, .int .u32 0, .int .u32 0, .int .u32 0, .int .u32 0, .int .u32 0, .int .u32 0, .int .u32 0, .int .u32 0, .int .u32 0, .int .u32 0, .int .u32 0, .int .u32 0, .int .u32 0, .int .u32 0, .int .u32 0, .bool false, .int .u32 0, .int .i64 0, .int .i64 0] (hcells x).zipIdx 0 37 = hcells x := by
  obtain ⟨regs, pc, held, heldAt, state, cause⟩ := x
  obtain ⟨a0, a1, a2, a3, a4, a5, a6, a7, a8, a9, a10, a11, a12, a13, a14, a15, a16, a17, a18, a19, a20, a21, a22, a23, a24, a25, a26, a27, a28, a29, a30, a31, rfl⟩ := list32b wf
  kernel_rfl
set_option maxRecDepth 100000 in
set_option maxHeartbeats 1600000 in
theorem get_any (v : Value) (b : List Int) (w : World) (hv : Ints .u8 w v b) (hb : Bytes b) (hl : b.length ≤ 140737488351232) :
    Calls Try.prog 27 #[v] w fun e w' => (∃ vm vh, e = .returned (.tuple #[.agg #[vm, vh], .int .i64 (getS b).2]) ∧ MachAt w' vm vh (getS b).1) ∧ Below w.heap.size w w' := by
  rw [getS_ok hb]
  obtain ⟨G, hG⟩ : ∃ G, G = (if getOk b = true then ((getR b).1, (0 : Int)) else (⟨[], []⟩, 2)) := ⟨_, rfl⟩
  rw [← hG]
  have HGG := Lib.hid hG
  clear hG
  obtain ⟨ao, cap, rfl, hc1, hc2, hno, ho⟩ := hv.open
  have HV := Lib.hid hv
  have HO := Lib.hid ho
  have HBY := Lib.hid hb
  obtain ⟨w0, hw0⟩ : ∃ w0, w0 = ((w.alloc (.cells #[.slice none 0 0, .slice none 0 0] 25)).alloc (.cells #[.slice ao b.length cap, .bool false] 123)).alloc (.cells #[.slice none 0 0, .slice none 0 0] 25) := ⟨_, rfl⟩
  have hb0 : Below w.heap.size w w0 := by rw [hw0]; exact (by repeat (first | with_reducible exact Below.refl _ _ | with_reducible refine below_drewN ?_ _ | ((with_reducible refine Below.setCell ?_ ?hq _); case hq => (first | (simp; done) | (simp; omega))) | ((with_reducible refine Below.alloc ?_ ?hq _); case hq => (first | (simp; done) | (simp; omega)))))
  have hs0 : w0.heap.size = w.heap.size + 3 := by rw [hw0]; simp
  have HM0 : Hid (w0.cell? ⟨w.heap.size + 2, 0, none⟩ = some (.slice none 0 0) ∧ w0.cell? ⟨w.heap.size + 2, 1, none⟩ = some (.slice none 0 0) ∧ (∀ o, w0.frozen? ⟨w.heap.size + 2, o, none⟩ = false)) := Lib.hid ⟨by rw [hw0]; go_cell, by rw [hw0]; go_cell, fun o => by
    have := heap_alloc_new ((w.alloc (.cells #[.slice none 0 0, .slice none 0 0] 25)).alloc (.cells #[.slice ao b.length cap, .bool false] 123)) (.cells #[.slice none 0 0, .slice none 0 0] 25)
    rw [← hw0, World.size_alloc, World.size_alloc] at this
    unfold World.frozen?; rw [this]; simp⟩
  have HRB : Hid (w0.heap[w.heap.size]? = some (.cells #[.slice none 0 0, .slice none 0 0] 25 (0, 0))) := Lib.hid (by
    rw [hw0, heap_alloc_old _ _ (by simp; omega), heap_alloc_old _ _ (by simp)]; exact heap_alloc_new _ _)
  have HRD0 : Hid (RdAt (w.heap.size + 1) w0 (b, false)) := Lib.hid (by
    have hfb : w0.heap[w.heap.size + 1]? = some (.cells #[.slice ao b.length cap, .bool false] 123 (0, 0)) := by
      have := heap_alloc_new (w.alloc (.cells #[.slice none 0 0, .slice none 0 0] 25)) (.cells #[.slice ao b.length cap, .bool false] 123)
      rw [World.size_alloc] at this
      rw [hw0, heap_alloc_old _ _ (by simp), this]
    refine ⟨⟨.slice ao b.length cap, by unfold World.cell?; rw [hfb]; simp, HV.out.below hb0, fun hne k e => ?_⟩, by unfold World.cell?; rw [hfb]; simp, fun o => by unfold World.frozen?; rw [hfb]; simp, by omega⟩
    obtain ⟨b', off, rfl, hlt, _⟩ := HO.out hne
    cases e
    show b' < w.heap.size + 1
    omega)
  have HW0 := Lib.hid hw0
  have HB0 := Lib.hid hb0
  have HN1 := Lib.hid (fun W hW => num_s (w.heap.size + 1) (b, false) W hW HBY.out)
  obtain ⟨n1, hn1⟩ := Int.eq_ofNat_of_zero_le (numR_u (s := (b, false)) HBY.out).1
  have hn1u : n1 < 4294967296 := by have := (numR_u (s := (b, false)) HBY.out).2; omega
  obtain ⟨s1, hs1⟩ : ∃ x, x = (numR (b, false)).2 := ⟨_, rfl⟩
  have HBY1 : Hid (Bytes s1.1) := Lib.hid (by rw [hs1]; exact numR_b (s := (b, false)) HBY.out)
  have hl1 : s1.1.length ≤ b.length := by rw [hs1]; unfold numR; split <;> simp
  rw [hn1, ← hs1] at HN1
  have HT := Lib.hid (fun W hW => take_s (w.heap.size + 1) s1 n1 W hW hn1u)
  obtain ⟨mem, hmem⟩ : ∃ x, x = (takeR n1 s1).1 := ⟨_, rfl⟩
  obtain ⟨s2, hs2⟩ : ∃ x, x = (takeR n1 s1).2 := ⟨_, rfl⟩
  have HBYm : Hid (Bytes mem) := Lib.hid (by rw [hmem]; unfold takeR; split; exact (fun x hx => by cases hx); exact HBY1.out.take _)
  have HBY2 : Hid (Bytes s2.1) := Lib.hid (by rw [hs2]; unfold takeR; split; exact HBY1.out; exact HBY1.out.drop _)
  have hlm : mem.length ≤ b.length := by rw [hmem]; unfold takeR; split <;> simp <;> omega
  rw [← hmem, ← hs2] at HT
  have HN2 := Lib.hid (fun W hW => num_s (w.heap.size + 1) s2 W hW HBY2.out)
  obtain ⟨n3, hn3⟩ := Int.eq_ofNat_of_zero_le (numR_u (s := s2) HBY2.out).1
  have hn3u : n3 < 4294967296 := by have := (numR_u (s := s2) HBY2.out).2; omega
  obtain ⟨s3, hs3⟩ : ∃ x, x = (numR s2).2 := ⟨_, rfl⟩
  have HBY3 : Hid (Bytes s3.1) := Lib.hid (by rw [hs3]; exact numR_b (s := s2) HBY2.out)
  rw [hn3, ← hs3] at HN2
  have HGR : Hid (getR b = (⟨mem, (hartsR 5 n3 s3).1⟩, (hartsR 5 n3 s3).2)) := Lib.hid (by
    unfold getR
    dsimp only
    rw [hn1, ← hs1, Int.toNat_natCast, ← hmem, ← hs2, hn3, ← hs3, Int.toNat_natCast])
  have HCL := Lib.hid (fun v1 W hW => clone_bytes v1 mem.length (mem.map (Value.int .u8)) W hW (by intro u hu; obtain ⟨a, _, rfl⟩ := List.mem_map.1 hu; rfl) (by omega))
  clear hv ho hb hw0 hb0 hn1 hs1 hmem hs2 hn3 hs3 hno
  go_enter Try.func27, Try.ntmps27
  go_upto_region 3 with (fail)
  rw [← HW0.out]
  go_wp2_with fail
  refine (HN1.out _ HRD0.out).mono ?_
  rintro e w1 ⟨rfl, hr1, hg1⟩
  go_wp2_with fail
  refine (HT.out _ hr1).mono ?_
  rintro e w2 ⟨⟨v1, rfl, hv1⟩, hr2, hg2⟩
  go_wp2_with fail
  refine (HCL.out v1 _ hv1).mono ?_
  rintro e w3 ⟨⟨vm, rfl, hown, _⟩, hb3⟩
  have hg12 := hg1.trans hg2 (fun _ _ e => e)
  have hs2 := hg12.size
  have hs3 := hb3.size
  have hk : ∀ j, j < w0.heap.size → j ≠ w.heap.size + 1 → w3.heap[j]? = w0.heap[j]? := fun j hj hn => (hb3.block j (by omega)).trans (hg12.block j hj (fun _ e => hn e))
  obtain ⟨m0, m1, m2⟩ := HM0.out
  have em := hk (w.heap.size + 2) (by omega) (by omega)
  have c0 := (cell_block em 0).trans m0
  have c1 := (cell_block em 1).trans m1
  have f0 := (frozen_block em 0).trans (m2 0)
  have HF3 : Hid (∀ o, w3.frozen? ⟨w.heap.size + 2, o, none⟩ = false) := Lib.hid (fun o => (frozen_block em o).trans (m2 o))
  have HR3 : Hid (w3.heap[w.heap.size]? = some (.cells #[.slice none 0 0, .slice none 0 0] 25 (0, 0))) := Lib.hid ((hk w.heap.size (by omega) (by omega)).trans HRB.out)
  have HRD3 := Lib.hid (hr2.below hb3)
  have HB3 : Hid (Below w.heap.size w w3) := Lib.hid ((HB0.out.trans (hg12.below (B := w.heap.size) (by omega) (fun p hp e => by omega))).trans (hb3.mono (by omega)))
  have HOW := Lib.hid (owns_mono (B' := w.heap.size + 2 + 1) hown (by omega))
  have hs3' : w.heap.size + 3 ≤ w3.heap.size := by omega
  obtain ⟨am, cm, rfl⟩ := owns_slice hown
  clear hk em m0 m1 m2 hg12 hg1 hg2 hr1 hr2 hv1 hown hb3
  go_upto_region 4 with (fail)
  have HMB : Hid (MB (w.heap.size + 2) 5 86 (.slice am mem.length cm) (.slice none 0 0) (w3.setCell ⟨w.heap.size + 2, 0, none⟩ (.slice am mem.length cm)) mem []) := Lib.hid ⟨World.cell?_setCell_same _ _ _ c0, (World.cell?_setCell_other _ _ _ _ (by intro e; injection e with _ e2; omega)).trans c1, fun o => (World.frozen?_setCell _ _ _ _).trans (HF3.out o), by
      have := ownsRow_setCell_below HOW.out (a := ⟨w.heap.size + 2, 0, none⟩) (Nat.lt_succ_self _) (.slice am mem.length cm)
      simpa using this, World.ownsRow_nil _ _ _ _⟩
  have HR4 : Hid ((w3.setCell ⟨w.heap.size + 2, 0, none⟩ (.slice am mem.length cm)).heap[w.heap.size]? = some (.cells #[.slice none 0 0, .slice none 0 0] 25 (0, 0))) := Lib.hid ((Below.heap_setCell _ _ _ _ (by show w.heap.size ≠ w.heap.size + 2; omega)).trans HR3.out)
  have HRD4 := Lib.hid (HRD3.out.other (p := ⟨w.heap.size + 2, 0, none⟩) (by show w.heap.size + 1 < w.heap.size + 2; omega) (.slice am mem.length cm))
  have HB4 := Lib.hid (HB3.out.setCell (p := ⟨w.heap.size + 2, 0, none⟩) (by show w.heap.size ≤ w.heap.size + 2; omega) (.slice am mem.length cm))
  have hs4 : w.heap.size + 3 ≤ (w3.setCell ⟨w.heap.size + 2, 0, none⟩ (.slice am mem.length cm)).heap.size := by simpa using hs3'
  clear c0 c1 f0 HF3 HR3 HRD3 HB3 HOW
  generalize w3.setCell ⟨w.heap.size + 2, 0, none⟩ (.slice am mem.length cm) = w4 at *
  go_wp2_with fail
  refine (HN2.out _ HRD4.out).mono ?_
  rintro e w5 ⟨rfl, hr5, hg5⟩
  have hk : ∀ j, j < w4.heap.size → j ≠ w.heap.size + 1 → w5.heap[j]? = w4.heap[j]? := fun j hj hn => hg5.block j hj (fun _ e => hn e)
  have hs5 := hg5.size
  have HMB5 := Lib.hid (HMB.out.move (w' := w5) (fun g h1 h2 => hk g h2 (by omega)))
  have HR5 := Lib.hid ((hk w.heap.size (by omega) (by omega)).trans HR4.out)
  have HB5 := Lib.hid (HB4.out.trans (hg5.below (B := w.heap.size) (by omega) (fun p hp e => by omega)))
  have HRD5 := Lib.hid hr5
  clear hk hg5 hr5 HMB HR4 HRD4 HB4
  go_wp2_with fail
  go_loopw [7] (fun i wr => ∃ k : Nat, i = .int .u32 k ∧ k ≤ 5 ∧ k ≤ n3 ∧ w.heap.size + 3 ≤ wr.heap.size ∧ ∃ (s : Rd) (hs : List Hart) (vh : Value), Hid (hartsR 5 n3 s3 = (hs ++ (hartsR (5 - k) (n3 - k) s).1, (hartsR (5 - k) (n3 - k) s).2) ∧ hs.length = k ∧ (∀ h ∈ hs, h.Wf) ∧ Bytes s.1 ∧ RdAt (w.heap.size + 1) wr s ∧ MB (w.heap.size + 2) 5 86 (.slice am mem.length cm) vh wr mem hs ∧ Below w.heap.size w wr ∧ wr.heap[w.heap.size]? = some (.cells #[.slice none 0 0, .slice none 0 0] 25 (0, 0)))) (fun i _ => 5 - (intOf i).toNat)
  case atStart => exact ⟨0, rfl, by omega, by omega, by omega, s3, [], .slice none 0 0, Lib.hid ⟨rfl, rfl, (fun h hh => by cases hh), HBY3.out, HRD5.out, HMB5.out, HB5.out, HR5.out⟩⟩
  case round =>
    obtain ⟨k, rfl, hk5, hkn, hsz, s, hs, vh, HR⟩ := hrel
    obtain ⟨sl, bd⟩ := s
    obtain ⟨r1, r2, r3, r4, r5, r6, r7, r8⟩ := HR.out
    have cbad := r5.bad
    simp only at cbad
    by_cases hgo : k < n3 ∧ bd = false ∧ k < 5
    · obtain ⟨g1, rfl, g3⟩ := hgo
      have HHT := Lib.hid (fun W hW => hart_rd (w.heap.size + 1) (sl, false) W hW r4)
      have HWX : Hid (hartR (sl, false)).1.Wf := Lib.hid (hartR_wf (s := (sl, false)) r4)
      have HBX : Hid (Bytes (hartR (sl, false)).2.1) := Lib.hid (hartR_b (s := (sl, false)) r4)
      have HE : Hid (hartsR (5 - k) (n3 - k) (sl, false) = ((hartR (sl, false)).1 :: (hartsR (5 - (k + 1)) (n3 - (k + 1)) (hartR (sl, false)).2).1, (hartsR (5 - (k + 1)) (n3 - (k + 1)) (hartR (sl, false)).2).2)) := Lib.hid (by
        rw [show 5 - k = (5 - (k + 1)) + 1 by omega, show n3 - (k + 1) = n3 - k - 1 by omega]
        conv => lhs; unfold hartsR
        rw [if_neg (by simp; omega)])
      obtain ⟨x, hx⟩ : ∃ x, x = (hartR (sl, false)).1 := ⟨_, rfl⟩
      obtain ⟨s', hs'⟩ : ∃ x, x = (hartR (sl, false)).2 := ⟨_, rfl⟩
      rw [← hx, ← hs'] at HHT HE
      rw [← hx] at HWX
      rw [← hs'] at HBX
      obtain ⟨ah, ch, rfl⟩ := owns_slice r6.own1
      have c1 := r6.c1
      have f1 := r6.frz 1
      have HRD := Lib.hid r5
      have HMB := Lib.hid r6
      obtain ⟨i0, hi, hi0, hi1, hi2⟩ := info_parts info_harts
      have HMBd := Lib.hid (r6.move (w' := wr.drew) (fun _ _ _ => rfl))
      have HN5 : Hid (hartsR 5 n3 s3 = (hs ++ [x] ++ (hartsR (5 - (k + 1)) (n3 - (k + 1)) s').1, (hartsR (5 - (k + 1)) (n3 - (k + 1)) s').2) ∧ (hs ++ [x]).length = k + 1 ∧ (∀ h ∈ hs ++ [x], h.Wf)) := Lib.hid ⟨by rw [r1, HE.out]; simp, by simp [r2], fun h hh => by
        rcases List.mem_append.1 hh with hh | hh
        · exact r3 h hh
        · rw [List.mem_singleton] at hh; rw [hh]; exact HWX.out⟩
      have HLEN : Hid (hs.length ≤ 4) := Lib.hid (by omega)
      have HR7 := Lib.hid r7
      have HR8 := Lib.hid r8
      have lmp := r6.lt
      clear hx hs' r1 r2 r3 r4 r5 r6 r7 r8 HR
      have hxs : (hcells x).size = 37 := hcells_size HWX.out
      have hxf := fold_hart1 x HWX.out.len
      go_upto_region 8 with (fail)
      go_region_law (first
        | (go_simp; go_at_call 64; refine (HHT.out _ ?hrd).mono ?_; (case hrd => first | exact HRD.out.below (Below.drew (Below.refl _ _)) | exact HRD.out); rintro e w6 ⟨rfl, hr6, hg6⟩
           have HMB6 := Lib.hid (HMBd.out.move (w' := w6) (fun g h1 h2 => hg6.block g h2 (fun _ e => by have e2 : g = w.heap.size + 1 := e; omega)))
           have hs6 : wr.heap.size ≤ w6.heap.size := hg6.size
           have HR6 := Lib.hid hr6
           have HG6 := Lib.hid hg6
           have c1 := HMB6.out.c1
           have l6 : w.heap.size + 1 + 1 < w6.heap.size := by omega
           clear hr6 hg6)
        | (refine step_append_any (by rfl) _ _ _ rfl (w.heap.size + 2 + 1) 86 i0 _ 37 160 Try.underlying23 hi hi0 hi1 hi2 rfl (by omega) _ hs.length _ (by rfl) (owns_below HMB6.out.own1 (Below.alloc (Below.refl _ _) (Nat.le_refl _) _)) (.slice (some ⟨w6.heap.size, 0, none⟩) 1 1) 1 (hlist x) (by rfl) ?k2 ?k3 ?k4 ?k5 ?k6 ?_
           case k2 =>
             have hq := at_alloc w6 (hlist x) 86 (0, 0)
             exact ⟨by rw [hlist_length HWX.out], _, 1, rfl, Nat.le_refl _, by decide, (by intro e; cases e), fun a ha _ => by cases ha; exact ⟨rfl, hq⟩⟩
           case k3 => exact fun u hu => hlist_one x u (by simpa [hcells] using hu)
           case k4 => have := HLEN.out; omega
           case k5 => have := HLEN.out; unfold maxLen; omega
           case k6 => show _ ≤ (World.alloc _ _).heap.size; simp; omega
           intro v2 w7 hown2 hgrow2
           obtain ⟨a2, c2, rfl⟩ := owns_slice hown2
           have hm1 : w.heap.size + 2 < (w6.alloc (.cells (hcells x) 86)).heap.size := by simp; omega
           have hfar2 : Hid (some (w.heap.size + 2) ≠ (Value.slice ah hs.length ch).ownBlock) := Lib.hid (fun e => by have := (HMB6.out.own1.lt _ e.symm).1; omega)
           have e1 : w7.cell? ⟨w.heap.size + 2, 1, none⟩ = some (.slice ah hs.length ch) := (hgrow2.cell_far _ hm1 hfar2.out).trans ((Below.alloc (Below.refl _ _) (Nat.le_refl _) _ : Below w6.heap.size w6 (w6.alloc (.cells (hcells x) 86))).cell (p := ⟨w.heap.size + 2, 1, none⟩) (lt_of_cell c1) |>.trans c1)
           have e2 : w7.frozen? ⟨w.heap.size + 2, 1, none⟩ = false := (hgrow2.frozen_far _ hm1 hfar2.out).trans ((Below.alloc (Below.refl _ _) (Nat.le_refl _) _ : Below w6.heap.size w6 (w6.alloc (.cells (hcells x) 86))).frozen (p := ⟨w.heap.size + 2, 1, none⟩) (lt_of_cell c1) |>.trans (HMB6.out.frz 1))
           have HO2 := Lib.hid hown2
           have HG2 := Lib.hid hgrow2
           clear hown2 hgrow2 hm1))
      all_goals
        go_wp2_with fail
        go_roundw
        case rel =>
          obtain ⟨f1, f2, f3, f4, f5⟩ := get_round (R := w.heap.size) (rp := w.heap.size + 1) (B := w.heap.size) HMBd.out (by decide) (by omega) (by omega) (Nat.le_refl _) HR7.out.drew HR6.out HG6.out HO2.out HG2.out
          exact ⟨k + 1, by simp, by omega, by omega, Nat.le_trans hsz f5, s', hs ++ [x], _, Lib.hid ⟨HN5.out.1, HN5.out.2.1, HN5.out.2.2, HBX.out, f2, f1, f3, f4.trans HR8.out⟩⟩
        case measure => simp [intOf]; omega
    · have HE : Hid (hartsR 5 n3 s3 = (hs, (sl, bd))) := Lib.hid (by
        rw [r1]
        have e : hartsR (5 - k) (n3 - k) (sl, bd) = ([], (sl, bd)) := by
          by_cases h5 : k = 5
          · subst h5; rfl
          · rw [show 5 - k = (5 - k - 1) + 1 by omega]
            unfold hartsR
            rw [if_pos]
            cases bd with
            | true => exact .inr rfl
            | false => exact .inl (by
                have : ¬ k < n3 := fun h => hgo ⟨h, rfl, by omega⟩
                omega)
        rw [e, List.append_nil])
      have HOK : Hid (getOk b = (!bd && sl.isEmpty && (wrong ⟨mem, hs⟩ [] == 0))) := Lib.hid (by unfold getOk; rw [HGR.out, HE.out])
      have HGM : Hid ((getR b).1 = ⟨mem, hs⟩) := Lib.hid (by rw [HGR.out, HE.out])
      have hex : (¬ k < n3) ∨ (k < n3 ∧ bd = true) ∨ (k < n3 ∧ bd = false ∧ k = 5) := by
        by_cases h1 : k < n3
        · cases bd with
          | true => exact .inr (.inl ⟨h1, rfl⟩)
          | false => exact .inr (.inr ⟨h1, rfl, by
              have : ¬ k < 5 := fun h => hgo ⟨h1, rfl, h⟩
              omega⟩)
        · exact .inl h1
      obtain ⟨v5, e5, hv5', _⟩ := r5.v
      have hv5 : Ints .u8 wr v5 sl := hv5'
      clear hv5'
      obtain ⟨a5, cp5, rfl, hcp5, hmx5, _⟩ := hv5.open
      unfold maxLen at hmx5
      clear hv5
      obtain ⟨ah, ch, rfl⟩ := owns_slice r6.own1
      have c0 := r6.c0
      have c1 := r6.c1
      have HMA := Lib.hid r6.at
      have FO0 : Hid (∀ k, (Value.slice am mem.length cm).ownBlock = some k → k ≠ w.heap.size) := Lib.hid (fun k e => by have := (r6.own0.lt _ e).1; omega)
      have FO1 : Hid (∀ k, (Value.slice ah hs.length ch).ownBlock = some k → k ≠ w.heap.size) := Lib.hid (fun k e => by have := (r6.own1.lt _ e).1; omega)
      have wfm : (⟨mem, hs⟩ : Mach).Wf := ⟨HBYm.out, r3⟩
      have HMY := Lib.hid (fun vm' vh' W hW => machmay_any vm' vh' (.slice none 0 0) ⟨mem, hs⟩ wfm [] W hW (Sl.nil _ _) (by simp))
      have d0 : wr.cell? ⟨w.heap.size, 0, none⟩ = some (.slice none 0 0) := by unfold World.cell?; rw [r8]; simp
      have d1 : wr.cell? ⟨w.heap.size, 1, none⟩ = some (.slice none 0 0) := by unfold World.cell?; rw [r8]; simp
      have fd0 : wr.frozen? ⟨w.heap.size, 0, none⟩ = false := by unfold World.frozen?; rw [r8]; simp
      have fd1 : wr.frozen? ⟨w.heap.size, 1, none⟩ = false := by unfold World.frozen?; rw [r8]; simp
      have hB := r7
      have HWF := Lib.hid wfm
      obtain ⟨wq, hwq⟩ : ∃ q, q = wrong ⟨mem, hs⟩ [] := ⟨_, rfl⟩
      have hwc := wrong_nil ⟨mem, hs⟩
      rw [← hwq] at HMY HOK hwc
      clear hwq wfm r1 r2 r3 r4 r5 r6 r7 r8 hgo
      have hbad : bd = true → getOk b = false := fun e => by rw [HOK.out, e]; rfl
      have hrest : sl ≠ [] → getOk b = false := fun e => by rw [HOK.out]; cases sl with | nil => exact absurd rfl e | cons _ _ => simp
      have hwr : wq = 2 → getOk b = false := fun e => by rw [HOK.out, e]; simp
      have hyes : bd = false → sl = [] → wq = 0 → getOk b = true := fun e1 e2 e3 => by rw [HOK.out, e1, e2, e3]; rfl
      have HB := Lib.hid hbad
      have HRS := Lib.hid hrest
      have HWR := Lib.hid hwr
      have HY := Lib.hid hyes
      clear hbad hrest hwr hyes
      have hres : (bd = true) ∨ (bd = false ∧ 0 < sl.length) ∨ (bd = false ∧ sl = []) := by
        cases bd with
        | true => exact .inl rfl
        | false => cases sl with
          | nil => exact .inr (.inr ⟨rfl, rfl⟩)
          | cons _ _ => exact .inr (.inl ⟨rfl, by simp⟩)
      have hl0 : w.heap.size < wr.heap.size := by omega
      have HERR : Hid (getOk b = false → ∀ W, Below w.heap.size w W → (∃ vm vh, Ending.returned (.tuple #[.agg #[.slice none 0 0, .slice none 0 0], .int .i64 2]) = Ending.returned (.tuple #[.agg #[vm, vh], .int .i64 G.2]) ∧ MachAt W vm vh G.1) ∧ Below w.heap.size w W) := Lib.hid (fun hg W hW => by
        rw [HGG.out, if_neg (by rw [hg]; decide)]
        exact ⟨⟨_, _, rfl, Sl.nil _ _, Sl.nil _ _⟩, hW⟩)
      have HFIN : Hid (getOk b = true → ∀ W, Below w.heap.size w W → MachAt W (.slice am mem.length cm) (.slice ah hs.length ch) ⟨mem, hs⟩ → (∃ vm vh, Ending.returned (.tuple #[.agg #[.slice am mem.length cm, .slice ah hs.length ch], .int .i64 0]) = Ending.returned (.tuple #[.agg #[vm, vh], .int .i64 G.2]) ∧ MachAt ((W.setCell ⟨w.heap.size, 0, none⟩ (.slice am mem.length cm)).setCell ⟨w.heap.size, 1, none⟩ (.slice ah hs.length ch)) vm vh G.1) ∧ Below w.heap.size w ((W.setCell ⟨w.heap.size, 0, none⟩ (.slice am mem.length cm)).setCell ⟨w.heap.size, 1, none⟩ (.slice ah hs.length ch))) := Lib.hid (fun hg W hW hM => by
        rw [HGG.out, if_pos hg]
        refine ⟨⟨_, _, rfl, ?_⟩, (hW.setCell (p := ⟨w.heap.size, 0, none⟩) (Nat.le_refl _) _).setCell (p := ⟨w.heap.size, 1, none⟩) (Nat.le_refl _) _⟩
        rw [HGM.out]
        exact ⟨ints_keep (ints_keep hM.1 (fun _ k e => FO0.out k e) _) (fun _ k e => FO0.out k e) _, (hM.2.set_other (p := ⟨w.heap.size, 0, none⟩) (fun b' off n c e => fun e2 => FO1.out b' (by rw [e]; rfl) e2.symm) _).set_other (p := ⟨w.heap.size, 1, none⟩) (fun b' off n c e => fun e2 => FO1.out b' (by rw [e]; rfl) e2.symm) _⟩)
      rcases hex with h1 | ⟨h1, rfl⟩ | ⟨h1, rfl, rfl⟩
      · rcases hres with rfl | ⟨rfl, hq2⟩ | ⟨rfl, rfl⟩
        · have hg := HB.out (by first | rfl | simp)
          go_wp2_with fail
          refine bodyPost_ret (results_c1t (by rfl) _ (by rfl) (load_out2 d0 d1 Try.underlying25 rfl (by kernel_rfl))) rfl ?_
          exact HERR.out hg _ ((hB.setCell (p := ⟨w.heap.size, 0, none⟩) (Nat.le_refl _) _).setCell (p := ⟨w.heap.size, 1, none⟩) (Nat.le_refl _) _)
        · have hg := HRS.out (fun e => by rw [e] at hq2; exact absurd hq2 (by decide))
          have hq3 : (0 : Int) < (sl.length : Int) := by omega
          go_wp2_with fail
          refine bodyPost_ret (results_c1t (by rfl) _ (by rfl) (load_out2 d0 d1 Try.underlying25 rfl (by kernel_rfl))) rfl ?_
          exact HERR.out hg _ ((hB.setCell (p := ⟨w.heap.size, 0, none⟩) (Nat.le_refl _) _).setCell (p := ⟨w.heap.size, 1, none⟩) (Nat.le_refl _) _)
        · go_wp2_with fail
          refine (HMY.out _ _ _ HMA.out).mono ?_
          rintro e w8 ⟨rfl, hb8⟩
          have g0 := (hb8.cell (p := ⟨w.heap.size, 0, none⟩) hl0).trans d0
          have g1 := (hb8.cell (p := ⟨w.heap.size, 1, none⟩) hl0).trans d1
          have gf0 := (hb8.frozen (p := ⟨w.heap.size, 0, none⟩) hl0).trans fd0
          have gf1 := (hb8.frozen (p := ⟨w.heap.size, 1, none⟩) hl0).trans fd1
          have hlm : w.heap.size + 2 < wr.heap.size := lt_of_cell c0
          have m0 := (hb8.cell (p := ⟨w.heap.size + 2, 0, none⟩) hlm).trans c0
          have m1 := (hb8.cell (p := ⟨w.heap.size + 2, 1, none⟩) hlm).trans c1
          have hB8 := hB.trans (hb8.mono (by omega))
          have HMA8 := Lib.hid (HMA.out.below hb8)
          clear d0 d1 fd0 fd1 c0 c1 hb8 hB
          rcases hwc with hw0 | hw2
          · have hg := HY.out (by simp) (by simp) (by first | exact hw0 | simp)
            subst hw0
            go_wp2_with fail
            refine bodyPost_ret (results_c1t (by rfl) _ (by rfl) (load_out2 g0 g1 Try.underlying25 rfl (by kernel_rfl))) rfl ?_
            exact HFIN.out hg _ hB8 HMA8.out
          · have hg := HWR.out (by first | exact hw2 | simp)
            subst hw2
            go_wp2_with fail
            refine bodyPost_ret (results_c1t (by rfl) _ (by rfl) (load_out2 g0 g1 Try.underlying25 rfl (by kernel_rfl))) rfl ?_
            exact HERR.out hg _ ((hB8.setCell (p := ⟨w.heap.size, 0, none⟩) (Nat.le_refl _) _).setCell (p := ⟨w.heap.size, 1, none⟩) (Nat.le_refl _) _)
      · have hg := HB.out (by first | rfl | simp)
        go_wp2_with fail
        refine bodyPost_ret (results_c1t (by rfl) _ (by rfl) (load_out2 d0 d1 Try.underlying25 rfl (by kernel_rfl))) rfl ?_
        exact HERR.out hg _ ((hB.setCell (p := ⟨w.heap.size, 0, none⟩) (Nat.le_refl _) _).setCell (p := ⟨w.heap.size, 1, none⟩) (Nat.le_refl _) _)
      · rcases hres with hq | ⟨_, hq2⟩ | ⟨_, rfl⟩
        · cases hq
        · have hg := HRS.out (fun e => by rw [e] at hq2; exact absurd hq2 (by decide))
          have hq3 : (0 : Int) < (sl.length : Int) := by omega
          go_wp2_with fail
          refine bodyPost_ret (results_c1t (by rfl) _ (by rfl) (load_out2 d0 d1 Try.underlying25 rfl (by kernel_rfl))) rfl ?_
          exact HERR.out hg _ ((hB.setCell (p := ⟨w.heap.size, 0, none⟩) (Nat.le_refl _) _).setCell (p := ⟨w.heap.size, 1, none⟩) (Nat.le_refl _) _)
        · go_wp2_with fail
          refine (HMY.out _ _ _ HMA.out).mono ?_
          rintro e w8 ⟨rfl, hb8⟩
          have g0 := (hb8.cell (p := ⟨w.heap.size, 0, none⟩) hl0).trans d0
          have g1 := (hb8.cell (p := ⟨w.heap.size, 1, none⟩) hl0).trans d1
          have gf0 := (hb8.frozen (p := ⟨w.heap.size, 0, none⟩) hl0).trans fd0
          have gf1 := (hb8.frozen (p := ⟨w.heap.size, 1, none⟩) hl0).trans fd1
          have hlm : w.heap.size + 2 < wr.heap.size := lt_of_cell c0
          have m0 := (hb8.cell (p := ⟨w.heap.size + 2, 0, none⟩) hlm).trans c0
          have m1 := (hb8.cell (p := ⟨w.heap.size + 2, 1, none⟩) hlm).trans c1
          have hB8 := hB.trans (hb8.mono (by omega))
          have HMA8 := Lib.hid (HMA.out.below hb8)
          clear d0 d1 fd0 fd1 c0 c1 hb8 hB
          rcases hwc with hw0 | hw2
          · have hg := HY.out (by simp) (by simp) (by first | exact hw0 | simp)
            subst hw0
            go_wp2_with fail
            refine bodyPost_ret (results_c1t (by rfl) _ (by rfl) (load_out2 g0 g1 Try.underlying25 rfl (by kernel_rfl))) rfl ?_
            exact HFIN.out hg _ hB8 HMA8.out
          · have hg := HWR.out (by first | exact hw2 | simp)
            subst hw2
            go_wp2_with fail
            refine bodyPost_ret (results_c1t (by rfl) _ (by rfl) (load_out2 g0 g1 Try.underlying25 rfl (by kernel_rfl))) rfl ?_
            exact HERR.out hg _ ((hB8.setCell (p := ⟨w.heap.size, 0, none⟩) (Nat.le_refl _) _).setCell (p := ⟨w.heap.size, 1, none⟩) (Nat.le_refl _) _)
end Go.Proofs.Ytlfnddmncbkjaaa.W
