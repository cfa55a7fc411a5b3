import Derived.Test.YtlfnddmncbkjaacZWEng8
import Derived.Test.YtlfnddmncbkjaacZWRun
import Derived.Test.YtlfnddmncbkjaacZHG
import Derived.Test.YtlfnddmncbkjaacZMA
set_option linter.unusedVariables false
set_option linter.unusedSimpArgs false
set_option maxRecDepth 100000
set_option maxHeartbeats 4000000
namespace Go.Proofs.Ytlfnddmncbkjaac.EngineRoomsLaw
open Go.RowKit Fb W
theorem engQ_cases (m : Mach) (l : List (Int × Int)) (a : Int) : (wrong m l ≠ 0 ∧ engQ m l a = wrong m l) ∨ (wrong m l = 0 ∧ (engQ m l a = 0 ∨ engQ m l a = 3)) := by
  unfold engQ
  by_cases h : wrong m l = 0
  · rw [if_pos h]
    exact .inr ⟨h, by by_cases h2 : a < 0 ∨ 64 < a; rw [if_pos h2]; exact .inr rfl; rw [if_neg h2]; exact .inl rfl⟩
  · rw [if_neg h]; exact .inl ⟨h, rfl⟩
theorem walk (vm vh vs : Value) (m : Mach) (l : List (Int × Int)) (ra rb : Int) (w : World) (hm : MachAt w vm vh m) (wf : m.Wf) (hs : Picks w vs l) (hp : ∀ p ∈ l, i64ok p.1 ∧ i64ok p.2) (ha : i64ok ra) (hb : i64ok rb) :
    Calls Try.prog 9 #[.agg #[vm, vh], vs, .int .i64 ra, .int .i64 rb] w fun e w' => e = .returned (.bool true) ∧ Below w.heap.size w w' := by
  obtain ⟨aom, capm, rfl, hcm, hmm, -, -⟩ := hm.1.open
  obtain ⟨aoh, caph, rfl, hch, hmh, -, -⟩ := hm.2.open (fun h hh => hlist_length (wf.harts h hh)) (by omega)
  obtain ⟨aos, caps, rfl, hcs, hms, -, hos⟩ := hs.open (fun _ _ => rfl) (by omega)
  unfold maxLen at hmm hmh hms
  obtain ⟨w1, hw1⟩ : ∃ w1, w1 = w.alloc (.cells #[.slice aom m.mem.length capm, .slice aoh m.harts.length caph] 25) := ⟨_, rfl⟩
  have hb1 : Below w.heap.size w w1 := by rw [hw1]; exact Fb.blw
  have hs1 : w.heap.size < w1.heap.size := by rw [hw1]; simp
  have c0 : w1.cell? ⟨w.heap.size, 0, none⟩ = some (.slice aom m.mem.length capm) := by rw [hw1]; go_cell
  have c1 : w1.cell? ⟨w.heap.size, 1, none⟩ = some (.slice aoh m.harts.length caph) := by rw [hw1]; go_cell
  have HM := Lib.hid (hm.below hb1)
  have HS := Lib.hid (hs.below hb1)
  have HE := Lib.hid (fun (r : Int) (hr : i64ok r) W hW => erun_open _ _ _ m wf l r W (HM.out.below hW) (HS.out.below hW) hp hr)
  have HR := Lib.hid (fun W hW => run_any _ _ _ m wf l W (HM.out.below hW) (HS.out.below hW) hp)
  have HOS := Lib.hid hos
  have HP := Lib.hid hp
  have HW1 := Lib.hid hw1
  have HB1 := Lib.hid hb1
  have HQA := Lib.hid (engQ_cases m l ra)
  have HQB := Lib.hid (engQ_cases m l rb)
  have HA := Lib.hid ha
  have HB := Lib.hid hb
  clear hw1 hm hs hos hp ha hb
  go_enter Try.func9, Try.ntmps9
  go_upto_region 1 with (fail)
  rw [← HW1.out]
  go_wp2_with fail
  go_loopw [10, 9] (fun i n wr => ∃ (k q : Nat), i = .int .i64 k ∧ n = .int .i64 q ∧ k ≤ l.length ∧ q ≤ 6001 ∧ wr = w1) (fun i _ _ => l.length - (intOf i).toNat)
  case atStart => exact ⟨0, 0, rfl, rfl, by omega, by omega, rfl⟩
  case round =>
    obtain ⟨k, q, rfl, rfl, hk, hq, rfl⟩ := hrel
    by_cases hgo : k < l.length ∧ q ≤ 3000
    · obtain ⟨hlt, hq3⟩ := hgo
      obtain ⟨b, off, rfl, hbl, hel⟩ := HOS.out (by intro e; rw [e] at hlt; simp at hlt)
      have hat := (hel k hlt).below HB1.out
      have d1 := hat.get (j := 1) (v := .int .i64 l[k].2) rfl
      have hi := (HP.out _ (List.getElem_mem hlt)).2
      obtain ⟨s, hs⟩ : ∃ x, x = l[k].2 := ⟨_, rfl⟩
      rw [← hs] at d1 hi
      clear hs hel hat
      have hk0 : (k : Int) < (l.length : Int) := by omega
      have hq0 : (q : Int) ≤ 3000 := by omega
      go_wp2_with fail
      obtain ⟨t, ht⟩ : ∃ t : Nat, (if (if 3001 < s then 3001 else s) < 0 then 0 else if 3001 < s then 3001 else s) = (t : Int) ∧ t ≤ 3001 := by
        refine ⟨(if (if 3001 < s then 3001 else s) < 0 then 0 else if 3001 < s then 3001 else s : Int).toNat, ?_, ?_⟩
        all_goals (split <;> split <;> omega)
      rw [ht.1]
      exact ⟨⟨k + 1, q + t, by simp, by simp, by omega, by omega, trivial⟩, by simp [intOf]; omega⟩
    · by_cases hq3 : 3000 < q
      · have hq4 : ¬ (q : Int) ≤ 3000 := by omega
        have hq5 : (3000 : Int) < (q : Int) := by omega
        by_cases hlt : k < l.length
        · have hk0 : (k : Int) < (l.length : Int) := by omega
          go_wp2_with fail
          go_ret
          exact ⟨rfl, HB1.out⟩
        · have hk0 : ¬ (k : Int) < (l.length : Int) := by omega
          go_wp2_with fail
          go_ret
          exact ⟨rfl, HB1.out⟩
      · have hlt : k = l.length := by omega
        subst hlt
        have hq5 : ¬ (3000 : Int) < (q : Int) := by omega
        clear hgo hk hq3
        obtain ⟨q1, hq1⟩ : ∃ x, x = engQ m l ra := ⟨_, rfl⟩
        obtain ⟨q2, hq2⟩ : ∃ x, x = engQ m l rb := ⟨_, rfl⟩
        obtain ⟨g, hg⟩ : ∃ x, x = wrong m l := ⟨_, rfl⟩
        have HE1 := Lib.hid (HE.out ra HA.out wr (Below.refl _ _))
        rw [← hq1] at HE1 HQA
        rw [← hg] at HQA HQB
        rw [← hq2] at HQB
        have HQ2 := Lib.hid hq2
        have HG := Lib.hid hg
        have HR' := HR
        clear hq1 hq2 hg
        go_wp2_with fail
        refine HE1.out.mono ?_
        rintro e w2 ⟨⟨a1, n1, k1, a2, n2, k2, a3, n3, k3, a4, n4, k4, rm, pu, st, steps, rfl, HX⟩, hb2⟩
        have hs2 := hb2.size
        obtain ⟨w3, hw3⟩ : ∃ w3, w3 = (w2.alloc (.cells #[.slice a1 n1 k1, .slice a2 n2 k2, .slice a3 n3 k3, .int .i64 steps] 29)).alloc (.cells #[.int .i64 rm, .slice a4 n4 k4, .int .i64 pu, .int .i64 st] 55) := ⟨_, rfl⟩
        have hb3 : Below w2.heap.size w2 w3 := by rw [hw3]; exact Fb.blw
        have hs3 : w2.heap.size + 1 < w3.heap.size := by rw [hw3]; simp
        have s0 : (w3).cell? ⟨w2.heap.size, 0, none⟩ = some (.slice a1 n1 k1) := by rw [hw3]; go_cell
        have s1 : (w3).cell? ⟨w2.heap.size, 1, none⟩ = some (.slice a2 n2 k2) := by rw [hw3]; go_cell
        have s2 : (w3).cell? ⟨w2.heap.size, 2, none⟩ = some (.slice a3 n3 k3) := by rw [hw3]; go_cell
        have s3 : (w3).cell? ⟨w2.heap.size, 3, none⟩ = some (.int .i64 steps) := by rw [hw3]; go_cell
        have hb13 : Below wr.heap.size wr w3 := hb2.trans (hb3.mono (by omega))
        have d0 := (hb13.cell (p := ⟨w.heap.size, 0, none⟩) (lt_of_cell c0)).trans c0
        have d1 := (hb13.cell (p := ⟨w.heap.size, 1, none⟩) (lt_of_cell c1)).trans c1
        have HE2 := Lib.hid (HE.out rb HB.out w3 hb13)
        rw [← HQ2.out] at HE2
        have HB13 := Lib.hid hb13
        have HB23 := Lib.hid hb3
        have HW3 := Lib.hid hw3
        clear c0 c1 hb2 hb3 hb13 hw3 HE1
        go_upto_region 9 with (fail)
        rw [← HW3.out]
        go_wp2_with fail
        refine HE2.out.mono ?_
        rintro e w4 ⟨⟨b1, m1, o1, b2, m2, o2, b3, m3, o3, b4, m4, o4, rm', pu', st', steps', rfl, HY⟩, hb4⟩
        have hs4 := hb4.size
        obtain ⟨w5, hw5⟩ : ∃ w5, w5 = (w4.alloc (.cells #[.slice b1 m1 o1, .slice b2 m2 o2, .slice b3 m3 o3, .int .i64 steps'] 29)).alloc (.cells #[.int .i64 rm', .slice b4 m4 o4, .int .i64 pu', .int .i64 st'] 55) := ⟨_, rfl⟩
        have hb5 : Below w4.heap.size w4 w5 := by rw [hw5]; exact Fb.blw
        have hs5 : w4.heap.size + 1 < w5.heap.size := by rw [hw5]; simp
        have t0 : (w5).cell? ⟨w4.heap.size, 0, none⟩ = some (.slice b1 m1 o1) := by rw [hw5]; go_cell
        have t1 : (w5).cell? ⟨w4.heap.size, 1, none⟩ = some (.slice b2 m2 o2) := by rw [hw5]; go_cell
        have t2 : (w5).cell? ⟨w4.heap.size, 2, none⟩ = some (.slice b3 m3 o3) := by rw [hw5]; go_cell
        have t3 : (w5).cell? ⟨w4.heap.size, 3, none⟩ = some (.int .i64 steps') := by rw [hw5]; go_cell
        have hb35 : Below w3.heap.size w3 w5 := hb4.trans (hb5.mono (by omega))
        have u0 : (w5).cell? ⟨w2.heap.size, 0, none⟩ = some (.slice a1 n1 k1) := (hb35.cell (p := ⟨w2.heap.size, 0, none⟩) ((show w2.heap.size < w3.heap.size by omega))).trans s0
        have u1 : (w5).cell? ⟨w2.heap.size, 1, none⟩ = some (.slice a2 n2 k2) := (hb35.cell (p := ⟨w2.heap.size, 1, none⟩) ((show w2.heap.size < w3.heap.size by omega))).trans s1
        have u2 : (w5).cell? ⟨w2.heap.size, 2, none⟩ = some (.slice a3 n3 k3) := (hb35.cell (p := ⟨w2.heap.size, 2, none⟩) ((show w2.heap.size < w3.heap.size by omega))).trans s2
        have u3 : (w5).cell? ⟨w2.heap.size, 3, none⟩ = some (.int .i64 steps) := (hb35.cell (p := ⟨w2.heap.size, 3, none⟩) ((show w2.heap.size < w3.heap.size by omega))).trans s3
        have f0 := (hb35.cell (p := ⟨w.heap.size, 0, none⟩) (lt_of_cell d0)).trans d0
        have f1 := (hb35.cell (p := ⟨w.heap.size, 1, none⟩) (lt_of_cell d1)).trans d1
        have HB15 := Lib.hid (HB13.out.trans (hb35.mono (by have := HB13.out.size; omega)))
        have HR5 := Lib.hid (HR.out w5 HB15.out)
        rw [← HG.out] at HR5
        have HB25 := Lib.hid (HB23.out.trans (hb35.mono (by omega)))
        have HB45 := Lib.hid hb5
        have HW5 := Lib.hid hw5
        clear d0 d1 s0 s1 s2 s3 hb4 hb5 hb35 hw5 HE2
        go_upto_region 10 with (fail)
        rw [← HW5.out]
        go_wp2_with fail
        refine HR5.out.mono ?_
        rintro e w6 ⟨⟨vm6, vh6, vo6, rfl, hsh⟩, hb6⟩
        have hs6 := hb6.size
        have hwf6 : ∀ x ∈ (runM m l).harts, x.Wf := by
          unfold runM
          by_cases h : wrong m l = 0
          · rw [if_pos h]; exact (playM_good l (startM_good wf h)).wf.harts
          · rw [if_neg h]; intro x hx; cases hx
        obtain ⟨e1, y1, rfl, -⟩ := hsh.mach.1.open
        obtain ⟨e2, y2, rfl, -⟩ := hsh.mach.2.open (fun x hx => hlist_length (hwf6 x hx)) (by omega)
        obtain ⟨e3, y3, rfl, -⟩ := hsh.out.open
        obtain ⟨z1, hz1⟩ : ∃ z, z = (runM m l).mach.mem.length := ⟨_, rfl⟩
        obtain ⟨z2, hz2⟩ : ∃ z, z = (runM m l).mach.harts.length := ⟨_, rfl⟩
        obtain ⟨z3, hz3⟩ : ∃ z, z = (runM m l).out.length := ⟨_, rfl⟩
        obtain ⟨z4, hz4⟩ : ∃ z : Int, z = ((runM m l).steps : Int) := ⟨_, rfl⟩
        rw [← hz1, ← hz2, ← hz3] at hsh ⊢
        rw [← hz4]
        obtain ⟨w7, hw7⟩ : ∃ w7, w7 = w6.alloc (.cells #[.slice e1 z1 y1, .slice e2 z2 y2, .slice e3 z3 y3, .int .i64 z4] 29) := ⟨_, rfl⟩
        have hb7 : Below w6.heap.size w6 w7 := by rw [hw7]; exact Fb.blw
        have r0 : (w7).cell? ⟨w6.heap.size, 0, none⟩ = some (.slice e1 z1 y1) := by rw [hw7]; go_cell
        have r1 : (w7).cell? ⟨w6.heap.size, 1, none⟩ = some (.slice e2 z2 y2) := by rw [hw7]; go_cell
        have r2 : (w7).cell? ⟨w6.heap.size, 2, none⟩ = some (.slice e3 z3 y3) := by rw [hw7]; go_cell
        have r3 : (w7).cell? ⟨w6.heap.size, 3, none⟩ = some (.int .i64 z4) := by rw [hw7]; go_cell
        have hb57 : Below w5.heap.size w5 w7 := hb6.trans (hb7.mono hs6)
        have v0 : (w7).cell? ⟨w2.heap.size, 0, none⟩ = some (.slice a1 n1 k1) := (hb57.cell (p := ⟨w2.heap.size, 0, none⟩) ((show w2.heap.size < w5.heap.size by omega))).trans u0
        have v1 : (w7).cell? ⟨w2.heap.size, 1, none⟩ = some (.slice a2 n2 k2) := (hb57.cell (p := ⟨w2.heap.size, 1, none⟩) ((show w2.heap.size < w5.heap.size by omega))).trans u1
        have v2 : (w7).cell? ⟨w2.heap.size, 2, none⟩ = some (.slice a3 n3 k3) := (hb57.cell (p := ⟨w2.heap.size, 2, none⟩) ((show w2.heap.size < w5.heap.size by omega))).trans u2
        have v3 : (w7).cell? ⟨w2.heap.size, 3, none⟩ = some (.int .i64 steps) := (hb57.cell (p := ⟨w2.heap.size, 3, none⟩) ((show w2.heap.size < w5.heap.size by omega))).trans u3
        have x0 : (w7).cell? ⟨w4.heap.size, 0, none⟩ = some (.slice b1 m1 o1) := (hb57.cell (p := ⟨w4.heap.size, 0, none⟩) ((show w4.heap.size < w5.heap.size by omega))).trans t0
        have x1 : (w7).cell? ⟨w4.heap.size, 1, none⟩ = some (.slice b2 m2 o2) := (hb57.cell (p := ⟨w4.heap.size, 1, none⟩) ((show w4.heap.size < w5.heap.size by omega))).trans t1
        have x2 : (w7).cell? ⟨w4.heap.size, 2, none⟩ = some (.slice b3 m3 o3) := (hb57.cell (p := ⟨w4.heap.size, 2, none⟩) ((show w4.heap.size < w5.heap.size by omega))).trans t2
        have x3 : (w7).cell? ⟨w4.heap.size, 3, none⟩ = some (.int .i64 steps') := (hb57.cell (p := ⟨w4.heap.size, 3, none⟩) ((show w4.heap.size < w5.heap.size by omega))).trans t3
        have HB27 := Lib.hid (HB25.out.trans (hb57.mono (by omega)))
        have HB47 := Lib.hid (HB45.out.trans (hb57.mono (by omega)))
        have HB17 := Lib.hid (HB1.out.trans ((HB15.out.trans (hb57.mono HB15.out.size)).mono (by omega)))
        have HSH := Lib.hid (And.intro (hsh.mach.below hb7) (hsh.out.below hb7))
        have hz4' : (z4 : Int) = ((runM m l).steps : Int) := hz4
        have HZ := Lib.hid (And.intro hz2 hz4)
        have HW7 := Lib.hid hw7
        have hs7 := hb7.size
        clear f0 f1 t0 t1 t2 t3 u0 u1 u2 u3 hb6 hb7 hb57 hsh hz1 hz2 hz3 hz4 hz4' hw7 hwf6 HR5
        go_upto_region 11 with (fail)
        rw [← HW7.out]
        have hqa := HQA.out
        have hqb := HQB.out
        rcases hqa with ⟨hw, rfl⟩ | ⟨rfl, ha⟩
        · have e2 : q2 = q1 := by
            rcases hqb with ⟨_, e⟩ | ⟨e, _⟩
            · exact e
            · exact absurd e hw
          subst e2
          clear hqb HX HY
          go_wp2_with fail
          go_ret
          exact ⟨rfl, HB17.out⟩
        · have hb' : q2 = 0 ∨ q2 = 3 := by
            rcases hqb with ⟨e, _⟩ | ⟨_, e⟩
            · exact absurd rfl e
            · exact e
          clear hqb
          rcases ha with rfl | rfl
          · rcases hb' with rfl | rfl
            · have hw0 : wrong m l = 0 := HG.out.symm
              have hrun : runM m l = playM l (startM m) := if_pos hw0
              have hgd := playM_good l (startM_good wf hw0)
              obtain ⟨-, e1, zs1, hX⟩ := HX.out.1 (by first | rfl | exact HG.out)
              obtain ⟨-, e2, zs2, hY⟩ := HY.out.1 (by first | rfl | exact HG.out)
              have hh := HSH.out
              have hz := HZ.out
              rw [hrun] at hh hz
              obtain ⟨sF, hsF⟩ : ∃ s, s = playM l (startM m) := ⟨_, rfl⟩
              have hlen : sF.harts.length = m.harts.length := by rw [hsF]; exact playM_len _ _
              have hsx := hX.shown
              have hsy := hY.shown
              rw [← hsF] at hh hz hgd e1 e2 hsx hsy
              have hwfm : sF.mach.Wf := ⟨hgd.wf.mem, hgd.wf.harts⟩
              have hz2 : (0 : Int) < (z2 : Int) := by
                have h1 := hz.1
                have h2 : sF.mach.harts.length = m.harts.length := hlen
                have h3 := (wrong_parts hw0).2.1
                omega
              obtain ⟨ss, hss⟩ : ∃ x, x = (sF.steps : Int) := ⟨_, rfl⟩
              rw [← hss] at e1 e2
              have hz4 : z4 = ss := by rw [hss]; exact hz.2
              have HS1 := Lib.hid (same5 _ _ _ _ _ _ sF.mach sF.out ss w7 hwfm (hsx.mach.below HB27.out) (hsy.mach.below HB47.out) (hsx.out.below HB27.out) (hsy.out.below HB47.out))
              have HS2 := Lib.hid (fun W (hW : Below w7.heap.size w7 W) => same5 _ _ _ _ _ _ sF.mach sF.out ss W hwfm ((hsx.mach.below HB27.out).below hW) (hh.1.below hW) ((hsx.out.below HB27.out).below hW) (hh.2.below hW))
              rw [e1] at v3 ⊢
              rw [e2] at x3 ⊢
              rw [hz4] at r3 ⊢
              clear hX hY hsx hsy hh hz hgd hwfm hsF hlen hss e1 e2 hz4 hw0 hrun
              go_wp2_with fail
              refine HS1.out.mono ?_
              rintro e w8 ⟨rfl, hb8⟩
              have hs8 := hb8.size
              have p0 := (hb8.cell (p := ⟨w2.heap.size, 0, none⟩) (lt_of_cell v0)).trans v0
              have p1 := (hb8.cell (p := ⟨w2.heap.size, 1, none⟩) (lt_of_cell v1)).trans v1
              have p2 := (hb8.cell (p := ⟨w2.heap.size, 2, none⟩) (lt_of_cell v2)).trans v2
              have p3 := (hb8.cell (p := ⟨w2.heap.size, 3, none⟩) (lt_of_cell v3)).trans v3
              have i0 := (hb8.cell (p := ⟨w6.heap.size, 0, none⟩) (lt_of_cell r0)).trans r0
              have i1 := (hb8.cell (p := ⟨w6.heap.size, 1, none⟩) (lt_of_cell r1)).trans r1
              have i2 := (hb8.cell (p := ⟨w6.heap.size, 2, none⟩) (lt_of_cell r2)).trans r2
              have i3 := (hb8.cell (p := ⟨w6.heap.size, 3, none⟩) (lt_of_cell r3)).trans r3
              have HS3 := Lib.hid (HS2.out w8 hb8)
              have HB18 := Lib.hid (HB17.out.trans (hb8.mono HB17.out.size))
              clear v0 v1 v2 v3 r0 r1 r2 r3 x0 x1 x2 x3 hb8
              go_wp2_with fail
              refine HS3.out.mono ?_
              rintro e w9 ⟨rfl, hb9⟩
              have HB19 := Lib.hid (HB18.out.trans (hb9.mono HB18.out.size))
              clear hb9
              go_wp2_with fail
              go_ret
              exact ⟨rfl, HB19.out⟩
            · go_wp2_with fail
              go_ret
              exact ⟨rfl, HB17.out⟩
          · rcases hb' with rfl | rfl
            · go_wp2_with fail
              go_ret
              exact ⟨rfl, HB17.out⟩
            · go_wp2_with fail
              go_ret
              exact ⟨rfl, HB17.out⟩
open RowB in
theorem lifted (os : Os) (started : os.Started) (H : Type) (enc : TypeId × Value → H) :
    ReturnsInHanded {} Try.checked os 9 .any (Rows.engineRoomsSpec.pre6 enc Try.prog Try.f9 Rows.engineRoomsRow.domain false) (Rows.engineRoomsSpec.post enc Try.prog Try.f9 false true false false) := by
  refine RowB.law_lifted (C := Try.checked) (tb := 4) (by kernel_rfl) started (by kernel_rfl) (by kernel_rfl)
    (ChangeSpec.witness6 (enc := enc) (C := Try.checked) false ⟨#[], #[.agg #[.slice none 0 0, .slice none 0 0], .slice none 0 0, .int .i64 0, .int .i64 0], []⟩ 8 (by kernel_rfl) (by kernel_rfl) (by kernel_rfl) (by kernel_rfl))
    rfl (fun ds h => by match ds, h with | [_, _, _, _], _ => rfl) (by kernel_rfl) (by kernel_rfl) (by kernel_rfl) (of_decide_eq_true (by kernel_rfl)) ?_
  intro W base args ds ps hval hA _ hz
  have hp : (Try.f9).params.toList = [25, 26, 3, 3] := by kernel_rfl
  rw [hp] at hA hz
  obtain ⟨v0, vs0, d0, ds0, p0, q0, hargs, rfl, rfl, h0, r0⟩ := ChangeShapes.trodAll_cons hA
  obtain ⟨v1, vs1, d1, ds1, p1, q1, rfl, rfl, rfl, h1, r1⟩ := ChangeShapes.trodAll_cons r0
  obtain ⟨v2, vs2, d2, ds2, p2, q2, rfl, rfl, rfl, h2, r2⟩ := ChangeShapes.trodAll_cons r1
  obtain ⟨v3, vs3, d3, ds3, p3, q3, rfl, rfl, rfl, h3, r3⟩ := ChangeShapes.trodAll_cons r2
  obtain ⟨rfl, rfl, rfl⟩ := ChangeShapes.trodAll_nil r3
  obtain rfl : args = #[v0, v1, v2, v3] := by cases args; simp_all
  obtain ⟨z0, y0⟩ := weights_cons hz
  obtain ⟨z1, y1⟩ := weights_cons y0
  obtain ⟨z2, y2⟩ := weights_cons y1
  obtain ⟨z3, y3⟩ := weights_cons y2
  have k0 := hval 0 25 v0 (by kernel_rfl) rfl
  have k1 := hval 1 26 v1 (by kernel_rfl) rfl
  have k2 := hval 2 3 v2 (by kernel_rfl) rfl
  have k3 := hval 3 3 v3 (by kernel_rfl) rfl
  obtain ⟨⟨vm, vh, m⟩, rfl, hm, wf, _, _⟩ := opens_machine.arg Try.underlying25 k0 h0 z0
  obtain ⟨⟨vs, l⟩, rfl, hs, hp, _⟩ := opens_picks.argSlice (g := fun p : Value × List (Int × Int) => p.1) Try.underlying26 k1 h1 z1
  obtain ⟨a, rfl, rfl, rfl, wa⟩ := ChangeShapes.open_int Try.underlying3 k2 h2
  obtain ⟨c, rfl, rfl, rfl, wc⟩ := ChangeShapes.open_int Try.underlying3 k3 h3
  exact walk vm vh v1 m l a c W hm wf hs hp (Fb.wf_i64 wa) (Fb.wf_i64 wc)
theorem proved : Rows.EngineRoomsSaid :=
  OpenClaim.holds_of_wide 9 Try.f9 rfl rfl rfl rfl rfl rfl rfl ⟨rfl, rfl, rfl, rfl, rfl⟩ rfl rfl rfl rfl rfl (by kernel_rfl) Try.func9 (by kernel_rfl)
    (of_decide_eq_true (by kernel_rfl)) (by unfold Func.isWrapper; first | (rw [if_pos (by decide +kernel)]; kernel_rfl) | (rw [if_neg (by decide +kernel)]; exact ⟨rfl, rfl⟩))
    (fun os started H enc _ => lifted os started H enc)
#print axioms proved
end Go.Proofs.Ytlfnddmncbkjaac.EngineRoomsLaw
