import Derived.Test.YtlfnddmncbkjaacZMA
import Derived.Test.YtlfnddmncbkjaacZGC
import Derived.Test.YtlfnddmncbkjaacZWDecode2
set_option linter.unusedVariables false
set_option linter.unusedSimpArgs false
set_option maxRecDepth 100000
set_option maxHeartbeats 4000000
namespace Go.Proofs.Ytlfnddmncbkjaac.W
open Go.RowKit Fb
theorem last6_any (op : Int) (w : World) : Calls Try.prog 42 #[.int .i64 op] w fun e w' => e = .returned (.bool (lastB op)) ∧ w = w' := by
  go_enter Try.func42, Try.ntmps42
  go_wp2
  all_goals go_ret
  all_goals refine ⟨ret_bool ?_, rfl⟩
  all_goals (try simp only [beq_iff_eq, beq_eq_false_iff_ne, ne_eq, decide_eq_true_eq, decide_eq_false_iff_not] at *)
  all_goals (symm; simp only [lastB, Bool.or_eq_true, Bool.or_eq_false_iff, decide_eq_true_eq, decide_eq_false_iff_not, beq_iff_eq, beq_eq_false_iff_ne, ne_eq]; omega)
theorem info_ins6 : (Try.prog.info? 110).map (fun i => (i.zero, i.size, i.bytes)) = some (some (.agg #[.int .i64 0, .int .i64 0, .int .i64 0, .int .i64 0, .int .i32 0]), 5, 40) := by kernel_rfl
theorem make6_any (v : Value) (l : List Int) (pc : Int) (w : World) (hv : Ints .u8 w v l) (hpc : U32 pc) (hb : ∀ i, 0 ≤ l.getD i 0 ∧ l.getD i 0 < 256) (hl : l.length ≤ 140737488351232) :
    Calls Try.prog 22 #[v, .int .u32 pc] w fun e w' => (∃ vi, e = .returned (.agg #[.int .u32 (makeS l pc).1, vi]) ∧ BlockAt w' vi (makeS l pc).2) ∧ Below w.heap.size w w' := by
  have HF := lI (fun p W (hp : U32 p) h => load3_any v l 13 p W h hp hb)
  have HD := lI (fun p W (hp : U32 p) => decode2_any (mLoad l 13 p) W (mLoad_u13 l p hp hb))
  have HV := lI hv
  obtain ⟨ao, cap, rfl, hc1, hc2, _⟩ := hv.open
  by_cases hbig : 4096 < l.length
  · have hM : makeS l pc = (0, []) := by unfold makeS; rw [if_pos hbig]
    rw [hM]
    clear hM HF HV HD
    go_enter Try.func22, Try.ntmps22
    go_wp2_with fail
    exact bodyPost_ret (v := .agg #[.int .u32 0, .slice none 0 0]) (by simp [results, Try.results22, go_sem]) rfl ⟨⟨_, rfl, Sl.nil _ _⟩, Fb.blw⟩
  have hM : makeS l pc = (pc, rowS l 16 pc) := by unfold makeS; rw [if_neg hbig]
  rw [hM]
  clear hM
  dsimp only
  have HP : Hid (U32 pc) := lI hpc
  obtain ⟨ti, hi, hi0, hi1, hi2⟩ := info_parts info_ins6
  go_enter Try.func22, Try.ntmps22
  go_upto_region 3 with (fail)
  go_upto_region 4 with (fail)
  obtain ⟨w0, hw0⟩ : ∃ w0, w0 = (w.alloc (.cells #[.int .u32 0, .slice none 0 0] 61)).alloc (.cells #[.int .u32 pc, .slice none 0 0] 61) := ⟨_, rfl⟩
  rw [← hw0]
  have hs0 : w0.heap.size = w.heap.size + 2 := by rw [hw0]; simp
  have hb0 : Below w.heap.size w w0 := by rw [hw0]; exact Fb.blw
  have HB0 : Hid (BlkW (w.heap.size + 1) 110 w0 pc []) := lI (by have := BlkW.init (w.alloc (.cells #[.int .u32 0, .slice none 0 0] 61)) 110 61 pc; rw [hw0]; simpa using this)
  have HR : Hid (w0.cell? ⟨w.heap.size, 0, none⟩ = some (.int .u32 0) ∧ w0.cell? ⟨w.heap.size, 1, none⟩ = some (.slice none 0 0) ∧ w0.frozen? ⟨w.heap.size, 0, none⟩ = false ∧ w0.frozen? ⟨w.heap.size, 1, none⟩ = false) := lI (by
    rw [hw0]
    exact ⟨by go_cell, by go_cell, (frozen_alloc _ zD).trans yG, (frozen_alloc _ zD).trans yG⟩)
  clear hw0
  go_wp2_with fail
  go_loopw [] (fun wr => ∃ (pre : List InsD), pre.length ≤ 16 ∧ Hid (pre ++ rowS l (16 - pre.length) ((pc + 4 * pre.length) % 4294967296) = rowS l 16 pc) ∧ Hid (BlkW (w.heap.size + 1) 110 wr pc pre ∧ Grew (w.heap.size + 1) 110 w0 wr)) (fun wr => 16 - slen wr (w.heap.size + 1) 1)
  case atStart => exact ⟨[], by simp, lI (by simp only [List.length_nil, List.nil_append]; congr 1; have := HP.out; unfold U32 at this; omega), lI ⟨HB0.out, Grew.refl _ _ _⟩⟩
  case round =>
    obtain ⟨pre, hk, HE, HW⟩ := hrel
    have hgb : Below (w.heap.size + 1) w0 wr := HW.out.2.below om
    have hbr : Below w.heap.size w wr := hb0.trans (hgb.mono om)
    obtain ⟨c0, v, c1, c2, c3⟩ := HW.out.1
    obtain ⟨ao2, cp2, rfl⟩ := owns_slice c3
    have hz1 : w.heap.size + 1 < wr.heap.size := lt_of_cell c0
    have HSL : Hid (slen wr (w.heap.size + 1) 1 = pre.length) := lI HW.out.1.slen
    by_cases hlt : pre.length < 16
    · obtain ⟨q, hq⟩ : ∃ q, q = (pc + 4 * pre.length) % 4294967296 := ⟨_, rfl⟩
      have hqu : U32 q := by rw [hq]; unfold U32; omega
      rw [← hq] at HE
      have HS := row_step l (15 - pre.length) q
      rw [show 15 - pre.length + 1 = 16 - pre.length from by omega] at HS
      rw [HS] at HE
      clear HS
      have HCF := lI (HF.out q wr hqu (HV.out.below hbr))
      have HDF := lI (HD.out q wr hqu)
      have HQ := lI hq
      clear hgb hbr hq c0 c1 c3 HF HD
      cases hok : mLoadOk l 13 q with
      | false =>
        have hfs : fetchS l q = (Fb.i0, 1) := by unfold fetchS; rw [hok]; rfl
        rw [hfs, if_neg zI, List.append_nil] at HE
        clear hfs HDF
        have hq2 := HW.out.2.below om
        have hbq : Below w.heap.size w wr := hb0.trans (hq2.mono om)
        have HR5 : Hid (wr.cell? ⟨w.heap.size, 0, none⟩ = some (.int .u32 0) ∧ wr.cell? ⟨w.heap.size, 1, none⟩ = some (.slice none 0 0) ∧ wr.frozen? ⟨w.heap.size, 0, none⟩ = false ∧ wr.frozen? ⟨w.heap.size, 1, none⟩ = false) := lI
          ⟨(hq2.cell zD).trans HR.out.1, (hq2.cell zD).trans HR.out.2.1, (World.frozen?_of_block (hq2.block _ zD)).trans HR.out.2.2.1, (World.frozen?_of_block (hq2.block _ zD)).trans HR.out.2.2.2⟩
        obtain ⟨c0, v, c1, c2, c3⟩ := HW.out.1
        obtain ⟨ao2, cp2, rfl⟩ := owns_slice c3
        clear c2 c3
        go_upto_region 5 with (fail)
        go_upto_region 7 with (go_at_call 40; rw [← HQ.out]; refine HCF.out.mono ?_; rintro e w1 ⟨rfl, rfl⟩; rw [hok])
        clear c0 c1
        obtain ⟨n0, u, n1, n2, n3⟩ := HW.out.1
        obtain ⟨r0, r1, r2, r3⟩ := HR5.out
        obtain ⟨ao4, cp4, rfl⟩ := owns_slice n3
        have HN3 := lI n3
        clear n3
        go_wp2_with fail
        obtain ⟨y0, y1⟩ := out2 (x0 := .int .u32 pc) (x1 := .slice ao4 pre.length cp4) r0 r1
        exact bodyPost_ret (v := .agg #[.int .u32 pc, .slice ao4 pre.length cp4]) yH rfl ⟨⟨_, rfl, by rw [← HE.out]; unfold BlockAt; exact owns_sl (ownsRow_setCell_below (ownsRow_setCell_below HN3.out zJ _) zJ _)⟩, (hbq.setCell zD _).setCell zD _⟩
      | true =>
        obtain ⟨x, hx⟩ : ∃ x, x = mLoad l 13 q := ⟨_, rfl⟩
        rw [← hx] at HCF HDF
        have HX := lI hx
        clear hx
        cases hd : dec x with
        | none =>
          have hfs : fetchS l q = (Fb.i0, 2) := by unfold fetchS; rw [hok, ← HX.out, hd]; rfl
          rw [hfs, if_neg zI, List.append_nil] at HE
          rw [hd] at HDF
          simp only [Option.getD_none, Option.isSome_none, icells, Fb.i0] at HDF
          clear hfs
          obtain ⟨c0, v, c1, c2, c3⟩ := HW.out.1
          obtain ⟨ao2, cp2, rfl⟩ := owns_slice c3
          clear c2 c3
          go_upto_region 5 with (fail)
          go_upto_region 8 with (go_at_call 40; rw [← HQ.out]; refine HCF.out.mono ?_; rintro e w1 ⟨rfl, rfl⟩; rw [hok])
          clear c0 c1
          go_wp2_with fail
          refine HDF.out.mono ?_
          rintro e w1 ⟨rfl, hb1⟩
          obtain ⟨w2, hw2⟩ : ∃ w2, w2 = w1.alloc (.cells #[.int .i64 0, .int .i64 0, .int .i64 0, .int .i64 0, .int .i32 0] 110) := ⟨_, rfl⟩
          have HW3 : Hid (BlkW (w.heap.size + 1) 110 w2 pc pre ∧ Grew (w.heap.size + 1) 110 w0 w2) := lI (by rw [hw2]; exact ⟨(HW.out.1.below hb1).below (Below.alloc br (Nat.le_refl _) _), (HW.out.2.trans (.of_below hb1)).trans (Grew.alloc _ _ _ _)⟩)
          have hq2 := HW3.out.2.below om
          have hbq : Below w.heap.size w w2 := hb0.trans (hq2.mono om)
          have HR5 : Hid (w2.cell? ⟨w.heap.size, 0, none⟩ = some (.int .u32 0) ∧ w2.cell? ⟨w.heap.size, 1, none⟩ = some (.slice none 0 0) ∧ w2.frozen? ⟨w.heap.size, 0, none⟩ = false ∧ w2.frozen? ⟨w.heap.size, 1, none⟩ = false) := lI
            ⟨(hq2.cell zD).trans HR.out.1, (hq2.cell zD).trans HR.out.2.1, (World.frozen?_of_block (hq2.block _ zD)).trans HR.out.2.2.1, (World.frozen?_of_block (hq2.block _ zD)).trans HR.out.2.2.2⟩
          have HW2 := lI hw2
          clear hw2 HW hz1 hb1
          go_upto_region 9 with (fail)
          rw [← HW2.out]
          clear HW2
          go_upto_region 10 with (fail)
          obtain ⟨n0, u, n1, n2, n3⟩ := HW3.out.1
          obtain ⟨r0, r1, r2, r3⟩ := HR5.out
          obtain ⟨ao4, cp4, rfl⟩ := owns_slice n3
          have HN3 := lI n3
          clear n3
          go_wp2_with fail
          obtain ⟨y0, y1⟩ := out2 (x0 := .int .u32 pc) (x1 := .slice ao4 pre.length cp4) r0 r1
          exact bodyPost_ret (v := .agg #[.int .u32 pc, .slice ao4 pre.length cp4]) yH rfl ⟨⟨_, rfl, by rw [← HE.out]; unfold BlockAt; exact owns_sl (ownsRow_setCell_below (ownsRow_setCell_below HN3.out zJ _) zJ _)⟩, (hbq.setCell zD _).setCell zD _⟩
        | some ii =>
          have hfs : fetchS l q = (ii, 0) := by unfold fetchS; rw [hok, ← HX.out, hd]; rfl
          rw [hfs, if_pos rfl] at HE
          rw [hd] at HDF
          simp only [Option.getD_some, Option.isSome_some, icells] at HDF
          clear hfs
          dsimp only at HE
          obtain ⟨q1, q2, q3, q4, q5⟩ := ii
          simp only at HDF HE
          obtain ⟨c0, v, c1, c2, c3⟩ := HW.out.1
          obtain ⟨ao2, cp2, rfl⟩ := owns_slice c3
          clear c2 c3
          go_upto_region 5 with (fail)
          go_upto_region 8 with (go_at_call 40; rw [← HQ.out]; refine HCF.out.mono ?_; rintro e w1 ⟨rfl, rfl⟩; rw [hok])
          clear c0 c1
          go_wp2_with fail
          refine HDF.out.mono ?_
          rintro e w1 ⟨rfl, hb1⟩
          have HW1 : Hid (BlkW (w.heap.size + 1) 110 w1 pc pre ∧ Grew (w.heap.size + 1) 110 w0 w1) := lI ⟨HW.out.1.below hb1, HW.out.2.trans (.of_below hb1)⟩
          clear HW HDF HCF hb1 hz1 hd hok
          obtain ⟨c0, v, c1, c2, c3⟩ := HW1.out.1
          have hz1 := lt_of_cell c0
          have HOWN := lI c3
          have hsh := owns_slice c3
          have hfar : Hid (v.ownBlock ≠ some (w.heap.size + 1)) := lI (fun e => by have := (c3.lt _ e).1; omega)
          have hfar2 : Hid (∀ k, v.ownBlock = some k → k < w1.heap.size) := lI (fun k e => (c3.lt k e).2)
          clear c3
          obtain ⟨w2, hw2⟩ : ∃ w2, w2 = w1.alloc (.cells #[.int .i64 q1, .int .i64 q2, .int .i64 q3, .int .i64 q4, .int .i32 q5] 110) := ⟨_, rfl⟩
          have hz2 : w1.heap.size < w2.heap.size := by rw [hw2]; simp
          have d0 : w2.cell? ⟨w.heap.size + 1, 0, none⟩ = some (.int .u32 pc) := by rw [hw2]; exact (World.cell?_alloc_lt _ _ ⟨w.heap.size + 1, 0, none⟩ hz1).trans c0
          have d1 : w2.cell? ⟨w.heap.size + 1, 1, none⟩ = some v := by rw [hw2]; exact (World.cell?_alloc_lt _ _ ⟨w.heap.size + 1, 1, none⟩ hz1).trans c1
          have d2 : w2.frozen? ⟨w.heap.size + 1, 1, none⟩ = false := by rw [hw2]; exact (frozen_alloc (p := ⟨w.heap.size + 1, 1, none⟩) _ hz1).trans c2
          have k0 : (w2).cell? ⟨w1.heap.size, 0, none⟩ = some (.int .i64 q1) := by rw [hw2]; go_cell
          have k1 : (w2).cell? ⟨w1.heap.size, 1, none⟩ = some (.int .i64 q2) := by rw [hw2]; go_cell
          have k2 : (w2).cell? ⟨w1.heap.size, 2, none⟩ = some (.int .i64 q3) := by rw [hw2]; go_cell
          have k3 : (w2).cell? ⟨w1.heap.size, 3, none⟩ = some (.int .i64 q4) := by rw [hw2]; go_cell
          have k4 : (w2).cell? ⟨w1.heap.size, 4, none⟩ = some (.int .i32 q5) := by rw [hw2]; go_cell
          have HOWN2 : Hid (w2.ownsRow (w.heap.size + 1 + 1) 110 5 v pre.length (pre.flatMap ilist)) := lI (by rw [hw2]; exact HOWN.out.alloc _)
          have HW2 := lI hw2
          clear hw2 c0 c1 c2
          obtain ⟨ao2, cp2, rfl⟩ := hsh
          go_upto_region 9 with (fail)
          rw [← HW2.out]
          go_upto_region 12 with (at_builtin; refine append_any rfl _ _ 59 rfl (w.heap.size + 1 + 1) 110 ti _ 5 40 Try.underlying59 hi hi0 hi1 hi2 rfl zI _ pre.length (pre.flatMap ilist) rfl ?h1 _ 1 (ilist ⟨q1, q2, q3, q4, q5⟩) rfl ?h2 (ilist_one _) ?h3 ?h4 ?h5 ?h6)
          case h1 => exact HOWN2.out.alloc _
          case h2 => exact Sl.mk (at_alloc w2 (ilist ⟨q1, q2, q3, q4, q5⟩) _ _) rfl om zI
          case h3 => omega
          case h4 => unfold maxLen; omega
          case h5 => first | omega | (rw [World.size_alloc]; omega)
          case h6 =>
          intro v' w3 hown hgrow
          have hz3 : w2.heap.size + 1 ≤ w3.heap.size := by have := hgrow.size; simpa using this
          have e0 : w3.cell? ⟨w.heap.size + 1, 0, none⟩ = some (.int .u32 pc) := ((hgrow.cell_far ⟨w.heap.size + 1, 0, none⟩ zJ (fun e => hfar.out e.symm)).trans (World.cell?_alloc_lt _ _ ⟨w.heap.size + 1, 0, none⟩ zM)).trans d0
          have e1 : w3.cell? ⟨w.heap.size + 1, 1, none⟩ = some (.slice ao2 pre.length cp2) := ((hgrow.cell_far ⟨w.heap.size + 1, 1, none⟩ zJ (fun e => hfar.out e.symm)).trans (World.cell?_alloc_lt _ _ ⟨w.heap.size + 1, 1, none⟩ zM)).trans d1
          have e2 : w3.frozen? ⟨w.heap.size + 1, 1, none⟩ = false := ((hgrow.frozen_far ⟨w.heap.size + 1, 1, none⟩ zJ (fun e => hfar.out e.symm)).trans (frozen_alloc (p := ⟨w.heap.size + 1, 1, none⟩) _ zM)).trans d2
          have m0 : w3.cell? ⟨w1.heap.size, 0, none⟩ = some (.int .i64 q1) := ((hgrow.cell_far ⟨w1.heap.size, 0, none⟩ zJ (fun e => by have h9 := hfar2.out _ e.symm; simp at h9)).trans (World.cell?_alloc_lt _ _ ⟨w1.heap.size, 0, none⟩ (by show w1.heap.size < _; omega))).trans k0
          have hsh2 := owns_slice hown
          have HW4 : Hid (BlkW (w.heap.size + 1) 110 (w3.setCell ⟨w.heap.size + 1, 1, none⟩ v') pc (pre ++ [⟨q1, q2, q3, q4, q5⟩]) ∧ Grew (w.heap.size + 1) 110 w0 (w3.setCell ⟨w.heap.size + 1, 1, none⟩ v')) :=
            lI ⟨BlkW.next e0 hown e1 e2, ((HW1.out.2.trans ((by rw [HW2.out]; exact Grew.alloc _ _ _ _ : Grew (w.heap.size + 1) 110 w1 w2).trans (Grew.alloc _ _ _ _))).put (HOWN2.out.alloc _) hgrow)⟩
          clear hown hgrow d0 d1 d2 k0 k1 k2 k3 k4 HOWN HOWN2 HW1 hfar hfar2 HW2
          obtain ⟨ao3, cp3, rfl⟩ := hsh2
          have m1 : (w3.setCell ⟨w.heap.size + 1, 1, none⟩ (.slice ao3 (pre.length + 1) cp3)).cell? ⟨w1.heap.size, 0, none⟩ = some (.int .i64 q1) := (World.cell?_setCell_other _ _ _ _ (by intro hh; injection hh with h1 h2; omega)).trans m0
          go_upto_region 12 with (fail)
          clear m0 e0 e1 e2
          obtain ⟨w5, hw5⟩ : ∃ w5, w5 = w3.setCell ⟨w.heap.size + 1, 1, none⟩ (.slice ao3 (pre.length + 1) cp3) := ⟨_, rfl⟩
          rw [← hw5] at m1 HW4 ⊢
          clear hw5 hz1 hz2 hz3
          have hbq : Below w.heap.size w w5 := hb0.trans ((HW4.out.2.below om).mono om)
          have HR5 : Hid (w5.cell? ⟨w.heap.size, 0, none⟩ = some (.int .u32 0) ∧ w5.cell? ⟨w.heap.size, 1, none⟩ = some (.slice none 0 0) ∧ w5.frozen? ⟨w.heap.size, 0, none⟩ = false ∧ w5.frozen? ⟨w.heap.size, 1, none⟩ = false) := lI (by
            have hq := HW4.out.2.below om
            exact ⟨(hq.cell zD).trans HR.out.1, (hq.cell zD).trans HR.out.2.1, (World.frozen?_of_block (hq.block _ zD)).trans HR.out.2.2.1, (World.frozen?_of_block (hq.block _ zD)).trans HR.out.2.2.2⟩)
          cases hlb : lastB q1 with
          | true =>
            rw [hlb, if_pos rfl] at HE
            go_upto_region 13 with (go_at_call 42; refine (last6_any _ _).mono ?_; rintro e w6 ⟨rfl, rfl⟩; rw [hlb])
            obtain ⟨n0, u, n1, n2, n3⟩ := HW4.out.1
            have el : (pre ++ [(⟨q1, q2, q3, q4, q5⟩ : InsD)]).length = pre.length + 1 := by simp
            rw [el] at n3
            obtain ⟨r0, r1, r2, r3⟩ := HR5.out
            obtain ⟨ao4, cp4, rfl⟩ := owns_slice n3
            have HN3 := lI n3
            clear n3
            go_wp2_with fail
            obtain ⟨y0, y1⟩ := out2 (x0 := .int .u32 pc) (x1 := .slice ao4 (pre.length + 1) cp4) r0 r1
            exact bodyPost_ret (v := .agg #[.int .u32 pc, .slice ao4 (pre.length + 1) cp4]) yH rfl ⟨⟨_, rfl, by rw [← HE.out]; unfold BlockAt; rw [el]; exact owns_sl (ownsRow_setCell_below (ownsRow_setCell_below HN3.out zJ _) zJ _)⟩, (hbq.setCell zD _).setCell zD _⟩
          | false =>
            rw [hlb, if_neg zD] at HE
            go_wp2_with (go_at_call 42; refine (last6_any _ _).mono ?_; rintro e w6 ⟨rfl, rfl⟩; rw [hlb])
            go_roundw
            case rel => exact ⟨pre ++ [⟨q1, q2, q3, q4, q5⟩], by simp; omega, lI (by
              have el : (pre ++ [(⟨q1, q2, q3, q4, q5⟩ : InsD)]).length = pre.length + 1 := by simp
              have e2 : (pc + 4 * ((pre ++ [(⟨q1, q2, q3, q4, q5⟩ : InsD)]).length : Int)) % 4294967296 = (q + 4) % 4294967296 := by rw [HQ.out, el]; omega
              rw [← HE.out, e2, el, List.append_assoc, show 16 - (pre.length + 1) = 15 - pre.length from by omega]; rfl), HW4⟩
            case measure => rw [HW4.out.1.slen, HSL.out]; simp; omega
    · have hk16 : pre.length = 16 := om
      rw [hk16, show rowS l (16 - 16) _ = [] from rfl, List.append_nil] at HE
      clear hgb hbr c3 hlt hk
      rw [hk16] at c1
      have hq2 := HW.out.2.below om
      have hbq : Below w.heap.size w wr := hb0.trans (hq2.mono om)
      have HR5 : Hid (wr.cell? ⟨w.heap.size, 0, none⟩ = some (.int .u32 0) ∧ wr.cell? ⟨w.heap.size, 1, none⟩ = some (.slice none 0 0) ∧ wr.frozen? ⟨w.heap.size, 0, none⟩ = false ∧ wr.frozen? ⟨w.heap.size, 1, none⟩ = false) := lI
        ⟨(hq2.cell zD).trans HR.out.1, (hq2.cell zD).trans HR.out.2.1, (World.frozen?_of_block (hq2.block _ zD)).trans HR.out.2.2.1, (World.frozen?_of_block (hq2.block _ zD)).trans HR.out.2.2.2⟩
      go_upto_region 14 with (fail)
      clear c0 c1 c2
      obtain ⟨n0, u, n1, n2, n3⟩ := HW.out.1
      rw [hk16] at n3
      obtain ⟨r0, r1, r2, r3⟩ := HR5.out
      obtain ⟨ao4, cp4, rfl⟩ := owns_slice n3
      have HN3 := lI n3
      clear n3
      go_wp2_with fail
      obtain ⟨y0, y1⟩ := out2 (x0 := .int .u32 pc) (x1 := .slice ao4 16 cp4) r0 r1
      exact bodyPost_ret (v := .agg #[.int .u32 pc, .slice ao4 16 cp4]) yH rfl ⟨⟨_, rfl, by rw [← HE.out]; unfold BlockAt; rw [hk16]; exact owns_sl (ownsRow_setCell_below (ownsRow_setCell_below HN3.out zJ _) zJ _)⟩, (hbq.setCell zD _).setCell zD _⟩
theorem ins_neq (i : InsD) (w : World) : (binOp .neq 110 (.agg (icells i)) (.agg (icells i))).run Try.prog w = .ok (.bool false) w := by
  obtain ⟨q1, q2, q3, q4, q5⟩ := i
  rw [run_neq_struct]
  have h : (Op.equalIn 10000 110 (.agg (icells ⟨q1, q2, q3, q4, q5⟩)) (.agg (icells ⟨q1, q2, q3, q4, q5⟩))).run Try.prog w = .ok true w := by
    simp [icells, go_sem]
  rw [h]; rfl
theorem same6_any (v v' : Value) (l : List InsD) (pc : Int) (w : World) (hv : BlockAt w v l) (hv' : BlockAt w v' l) :
    Calls Try.prog 24 #[.agg #[.int .u32 pc, v], .agg #[.int .u32 pc, v']] w fun e w' => e = .returned (.bool true) ∧ Below w.heap.size w w' := by
  obtain ⟨ao, cap, rfl, hc, hm, _, ho⟩ := hv.open (fun _ _ => rfl) om
  obtain ⟨ao', cap', rfl, hc', hm', _, ho'⟩ := hv'.open (fun _ _ => rfl) om
  have HO := lI ho
  have HO' := lI ho'
  unfold maxLen at hm hm'
  clear hv hv' ho ho'
  go_enter Try.func24, Try.ntmps24
  go_upto_region 1 with (fail)
  have hb0 : Below w.heap.size w ((w.alloc (.cells #[.int .u32 pc, .slice ao l.length cap] 61)).alloc (.cells #[.int .u32 pc, .slice ao' l.length cap'] 61)) := Fb.blw
  have c0 : ((w.alloc (.cells #[.int .u32 pc, .slice ao l.length cap] 61)).alloc (.cells #[.int .u32 pc, .slice ao' l.length cap'] 61)).cell? ⟨w.heap.size, 0, none⟩ = some (.int .u32 pc) := by go_cell
  have c1 : ((w.alloc (.cells #[.int .u32 pc, .slice ao l.length cap] 61)).alloc (.cells #[.int .u32 pc, .slice ao' l.length cap'] 61)).cell? ⟨w.heap.size, 1, none⟩ = some (.slice ao l.length cap) := by go_cell
  have d0 : ((w.alloc (.cells #[.int .u32 pc, .slice ao l.length cap] 61)).alloc (.cells #[.int .u32 pc, .slice ao' l.length cap'] 61)).cell? ⟨w.heap.size + 1, 0, none⟩ = some (.int .u32 pc) := by go_cell
  have d1 : ((w.alloc (.cells #[.int .u32 pc, .slice ao l.length cap] 61)).alloc (.cells #[.int .u32 pc, .slice ao' l.length cap'] 61)).cell? ⟨w.heap.size + 1, 1, none⟩ = some (.slice ao' l.length cap') := by go_cell
  generalize (w.alloc (.cells #[.int .u32 pc, .slice ao l.length cap] 61)).alloc (.cells #[.int .u32 pc, .slice ao' l.length cap'] 61) = w2 at *
  go_wp2_with fail
  go_loopw [5] (fun i wr => ∃ k : Nat, i = .int .i64 k ∧ k ≤ l.length ∧ ∃ nd, wr = w2.drewN nd) (fun i _ => l.length - (intOf i).toNat)
  case atStart => exact ⟨0, rfl, om, 0, rfl⟩
  case round =>
    obtain ⟨k, rfl, hk, nd, rfl⟩ := hrel
    by_cases hlt : k < l.length
    · obtain ⟨b, off, rfl, hbl, hel⟩ := HO.out zK
      obtain ⟨b', off', rfl, hbl', hel'⟩ := HO'.out zK
      have hat : At w2 b (off + k * 5) (ilist l[k]) := (hel k hlt).below hb0
      have hat' : At w2 b' (off' + k * 5) (ilist l[k]) := (hel' k hlt).below hb0
      generalize l[k] = h at *
      have hsz : (Try.prog.info? 110).map (·.size) = some (icells h).size := by kernel_rfl
      have i1 : (0 : Int) ≤ (k : Int) := om
      have i2 : (k : Int) < (l.length : Int) := om
      clear hel hel' hk
      go_wp2_with fail
      refine wp_region_quiet_lit kr kr ?_
      repeat (first
        | (refine wpQuiet_load_at rfl 110 _ rfl b (off + k * 5) rfl (icells h) _ (by rintro _ ⟨_, rfl⟩; exact hat) Try.underlying110 rfl hsz ?_)
        | (refine wpQuiet_load_at rfl 110 _ rfl b' (off' + k * 5) rfl (icells h) _ (by rintro _ ⟨_, rfl⟩; exact hat') Try.underlying110 rfl hsz ?_)
        | (refine wpQuiet_neq rfl 110 _ _ _ rfl (icells h) (icells h) rfl rfl kr _ (ins_neq h) ?_)
        | quiet_step (fail))
      refine wpQuiet_nil ?_
      intro _ hw'
      obtain ⟨nq, hw''⟩ := hw'
      subst hw''
      go_wp2
      go_roundw
      case rel => exact ⟨k + 1, by go_num, om, _, rfl⟩
      case measure => simp [intOf]; omega
    · go_wp2
      go_ret
      exact ⟨rfl, below_drewN hb0 _⟩
end Go.Proofs.Ytlfnddmncbkjaac.W
