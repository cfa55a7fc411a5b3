/- MachineSplits: for every machine and two scripts: both, one behind the other, do what the second one does behind the first one. Where what is read is of bulk at most 1048576. -/
import Derived.Test.YtlfnddmncbkjaacZWRun
import Derived.Test.YtlfnddmncbkjaacZWSame
import Derived.Test.YtlfnddmncbkjaacZMA
import Derived.Test.YtlfnddmncbkjaacZMB
import Derived.Test.YtlfnddmncbkjaacZRowU
namespace Go.Proofs.Ytlfnddmncbkjaac.Fb
set_option linter.unusedVariables false
set_option linter.unusedSimpArgs false
theorem runM_good {m : Mach} {l : List (Int × Int)} (wf : m.Wf) : (runM m l).Good := by
  unfold runM
  split
  · rename_i h; exact playM_good l (startM_good wf h)
  · have h : ∀ {α : Type} {P : α → Prop}, ∀ x ∈ ([] : List α), P x := fun x hx => by cases hx
    exact ⟨⟨h, h, Nat.zero_le _, h⟩, h, Nat.le_refl _⟩
end Go.Proofs.Ytlfnddmncbkjaac.Fb
namespace Go.Proofs.Ytlfnddmncbkjaac.MachineSplitsLaw
open Go.RowKit Fb W
set_option maxRecDepth 100000 in
set_option maxHeartbeats 1600000 in
theorem walk (vm vh va vb : Value) (m : Mach) (a b : List (Int × Int)) (w : World) (hm : MachAt w vm vh m) (wf : m.Wf) (ha : Picks w va a) (hb : Picks w vb b) (hpa : ∀ p ∈ a, i64ok p.1 ∧ i64ok p.2) (hpb : ∀ p ∈ b, i64ok p.1 ∧ i64ok p.2) (hla : a.length ≤ 1048576) (hlb : b.length ≤ 1048576) :
    Calls Try.prog 3 #[.agg #[vm, vh], va, vb] w fun e w' => e = .returned (.bool true) ∧ Below w.heap.size w w' := by
  obtain ⟨aom, capm, rfl, hcm, hmm, -, -⟩ := hm.1.open
  obtain ⟨aoh, caph, rfl, hch, hmh, -, -⟩ := hm.2.open (fun h hh => hlist_length (wf.harts h hh)) (by omega)
  obtain ⟨aoa, capa, rfl, -, -, -, -⟩ := ha.open (fun _ _ => rfl) (by omega)
  obtain ⟨aob, capb, rfl, -, -, -, -⟩ := hb.open (fun _ _ => rfl) (by omega)
  clear hcm hmm hch hmh
  obtain ⟨w1, hw1⟩ : ∃ w1, w1 = w.alloc (.cells #[.slice aom m.mem.length capm, .slice aoh m.harts.length caph] 25) := ⟨_, rfl⟩
  have hb1 : Below w.heap.size w w1 := by rw [hw1]; exact (by repeat (first | with_reducible exact Below.refl _ _ | with_reducible refine below_drewN ?_ _ | ((with_reducible refine Below.setCell ?_ ?hq _); case hq => (first | (simp; done) | (simp; omega))) | ((with_reducible refine Below.alloc ?_ ?hq _); case hq => (first | (simp; done) | (simp; omega)))))
  have hs1 : w.heap.size + 1 ≤ w1.heap.size := by rw [hw1]; simp
  have c0 : w1.cell? ⟨w.heap.size, 0, none⟩ = some (.slice aom m.mem.length capm) := by rw [hw1]; go_cell
  have c1 : w1.cell? ⟨w.heap.size, 1, none⟩ = some (.slice aoh m.harts.length caph) := by rw [hw1]; go_cell
  have HR1 := Lib.hid (run_any _ _ _ m wf a w1 (hm.below hb1) (ha.below hb1) hpa)
  have HM := Lib.hid hm
  have HA := Lib.hid ha
  have HB := Lib.hid hb
  have HPA := Lib.hid hpa
  have HPB := Lib.hid hpb
  have HW1 := Lib.hid hw1
  have HG1 : Hid ((runM m a).Good) := Lib.hid (runM_good wf)
  have HRD : Hid (∀ x, runM m x = if wrong m x = 0 then playM x (startM m) else ⟨[], [], [], 0⟩) := Lib.hid (fun _ => rfl)
  obtain ⟨qa, hqa⟩ : ∃ q, q = wrong m a := ⟨_, rfl⟩
  obtain ⟨sa, hsa⟩ : ∃ q, q = runM m a := ⟨_, rfl⟩
  rw [← hqa, ← hsa] at HR1
  rw [← hsa] at HG1
  have HQA := Lib.hid hqa
  have HSA := Lib.hid hsa
  clear hw1 hm ha hb hpa hpb hqa hsa
  go_enter Try.func3, Try.ntmps3
  go_upto_region 1 with (fail)
  rw [← HW1.out]
  go_wp2_with fail
  refine HR1.out.mono ?_
  rintro e w2 ⟨⟨vm2, vh2, vo2, rfl, hsh⟩, hb2⟩
  have hs2 := hb2.size
  have l1 : w.heap.size < w1.heap.size := by omega
  have d0 := (hb2.cell (p := ⟨w.heap.size, 0, none⟩) l1).trans c0
  have d1 := (hb2.cell (p := ⟨w.heap.size, 1, none⟩) l1).trans c1
  have HB2 := Lib.hid (hb1.trans (hb2.mono (by omega)))
  obtain ⟨am2, cm2, rfl, -⟩ := hsh.mach.1.open
  obtain ⟨ah2, ch2, rfl, -⟩ := hsh.mach.2.open (fun h hh => hlist_length (HG1.out.wf.harts h hh)) (by omega)
  obtain ⟨ao2, co2, rfl, -⟩ := hsh.out.open
  obtain ⟨w3, hw3⟩ : ∃ w3, w3 = w2.alloc (.cells #[.slice am2 sa.mach.mem.length cm2, .slice ah2 sa.mach.harts.length ch2, .slice ao2 sa.out.length co2, .int .i64 sa.steps] 29) := ⟨_, rfl⟩
  have hb3 : Below w2.heap.size w2 w3 := by rw [hw3]; exact (by repeat (first | with_reducible exact Below.refl _ _ | with_reducible refine below_drewN ?_ _ | ((with_reducible refine Below.setCell ?_ ?hq _); case hq => (first | (simp; done) | (simp; omega))) | ((with_reducible refine Below.alloc ?_ ?hq _); case hq => (first | (simp; done) | (simp; omega)))))
  have hs3 : w2.heap.size + 1 ≤ w3.heap.size := by rw [hw3]; simp
  have l2 : w.heap.size < w2.heap.size := by omega
  have f0 := (hb3.cell (p := ⟨w.heap.size, 0, none⟩) l2).trans d0
  have f1 := (hb3.cell (p := ⟨w.heap.size, 1, none⟩) l2).trans d1
  have g0 : (w3).cell? ⟨w2.heap.size, 0, none⟩ = some (.slice am2 sa.mach.mem.length cm2) := by rw [hw3]; go_cell
  have g1 : (w3).cell? ⟨w2.heap.size, 1, none⟩ = some (.slice ah2 sa.mach.harts.length ch2) := by rw [hw3]; go_cell
  have g2 : (w3).cell? ⟨w2.heap.size, 2, none⟩ = some (.slice ao2 sa.out.length co2) := by rw [hw3]; go_cell
  have g3 : (w3).cell? ⟨w2.heap.size, 3, none⟩ = some (.int .i64 sa.steps) := by rw [hw3]; go_cell
  have HS3 : Hid (ShownAt w3 (.slice am2 sa.mach.mem.length cm2) (.slice ah2 sa.mach.harts.length ch2) (.slice ao2 sa.out.length co2) sa) := Lib.hid ⟨hsh.mach.below hb3, hsh.out.below hb3⟩
  have HB3 := Lib.hid (HB2.out.trans (hb3.mono (by omega)))
  have HW3 := Lib.hid hw3
  have HFG := Lib.hid (And.intro f0 (And.intro f1 (And.intro g0 (And.intro g1 (And.intro g2 g3)))))
  clear c0 c1 hb1 hb2 HR1 hsh d0 d1 hb3 hw3 HB2 f0 f1 g0 g1 g2 g3
  go_upto_region 2 with (fail)
  rw [← HW3.out]
  obtain ⟨j0, hi, hz0, hz1, hz2⟩ := info_parts (show (Try.prog.info? 37).map (fun i => (i.zero, i.size, i.bytes)) = some (some (.agg #[.int .i64 0, .int .i64 0]), 2, 16) by kernel_rfl)
  have hone : ∀ L : List (Int × Int), ∀ u ∈ L.flatMap plist, u.oneCell' = true := fun L u hu => by
    obtain ⟨q, _, hu⟩ := List.mem_flatMap.1 hu
    simp only [plist, List.mem_cons, List.not_mem_nil, or_false] at hu
    rcases hu with rfl | rfl <;> rfl
  have HONE := Lib.hid hone
  have HA3 := Lib.hid (HA.out.below HB3.out)
  have HB3' := Lib.hid (HB.out.below HB3.out)
  clear hone
  go_wp2_with (first | (at_builtin; refine append_any rfl _ _ 26 rfl w3.heap.size 37 j0 _ 2 16 Try.underlying26 hi hz0 hz1 hz2 rfl (by decide) _ 0 [] rfl (ownsRow_built _ _ _ _ (Nat.le_refl _)) _ a.length (a.flatMap plist) rfl (HA3.out.below ?_) (HONE.out _) ?_ ?_ ?_ ?_))
  rotate_right
  · intro v5 w5 hown hgrow
    try simp only [Nat.zero_add, List.nil_append] at hown
    have hb5 : Below w3.heap.size w3 w5 := (Below.alloc (Below.refl _ _) (Nat.le_refl _) _).grown hgrow (by simp) (by intro k hk; simp [Value.ownBlock] at hk; omega)
    have hs5 : w3.heap.size ≤ w5.heap.size := hb5.size
    obtain ⟨a5, c5, rfl⟩ := owns_slice hown
    have HOWN := Lib.hid hown
    have HB5 := Lib.hid hb5
    have HBB := Lib.hid (HB3'.out.below hb5)
    clear hown hgrow hb5
    go_wp2_with (first | (at_builtin; refine append_any rfl _ _ 26 rfl w3.heap.size 37 j0 _ 2 16 Try.underlying26 hi hz0 hz1 hz2 rfl (by decide) _ a.length (a.flatMap plist) rfl HOWN.out _ b.length (b.flatMap plist) rfl HBB.out (HONE.out _) ?_ ?_ ?_ ?_))
    rotate_right
    · intro v7 w7 hown7 hgrow7
      have hb7 : Below w3.heap.size w3 w7 := HB5.out.grown hgrow7 hs5 (fun g e => (HOWN.out.lt g e).1)
      have hs7 : w3.heap.size ≤ w7.heap.size := hb7.size
      obtain ⟨a7, c7, rfl⟩ := owns_slice hown7
      have hoth : Picks w7 (.slice a7 (a.length + b.length) c7) (a ++ b) := by
        unfold Picks
        rw [List.length_append, List.flatMap_append]
        exact owns_sl hown7
      have hpo : ∀ p ∈ a ++ b, i64ok p.1 ∧ i64ok p.2 := fun p hp => by
        rcases List.mem_append.1 hp with h | h
        · exact HPA.out p h
        · exact HPB.out p h
      have HRN := Lib.hid (run_any _ _ _ m wf _ w7 (HM.out.below (HB3.out.trans (hb7.mono (by omega)))) hoth hpo)
      have HG2 : Hid ((runM m (a ++ b)).Good) := Lib.hid (runM_good wf)
      obtain ⟨qb, hqb⟩ : ∃ q, q = wrong m (a ++ b) := ⟨_, rfl⟩
      obtain ⟨sb, hsb⟩ : ∃ q, q = runM m (a ++ b) := ⟨_, rfl⟩
      rw [← hqb, ← hsb] at HRN
      rw [← hsb] at HG2
      have HQB := Lib.hid hqb
      have HSB := Lib.hid hsb
      obtain ⟨f0, f1, g0, g1, g2, g3⟩ := HFG.out
      have m1 : w.heap.size < w3.heap.size := by omega
      have m2 : w2.heap.size < w3.heap.size := by omega
      have F0 := (hb7.cell (p := ⟨w.heap.size, 0, none⟩) m1).trans f0
      have F1 := (hb7.cell (p := ⟨w.heap.size, 1, none⟩) m1).trans f1
      have HB7 := Lib.hid hb7
      clear f0 f1 g0 g1 g2 g3 hoth hpo hqb hsb hown7 hgrow7 hb7 HOWN HB5 HBB HA3
      go_wp2_with fail
      refine HRN.out.mono ?_
      rintro e w8 ⟨⟨vm3, vh3, vo3, rfl, hsh3⟩, hb8⟩
      have hs8 := hb8.size
      obtain ⟨am3, cm3, rfl, -⟩ := hsh3.mach.1.open
      obtain ⟨ah3, ch3, rfl, -⟩ := hsh3.mach.2.open (fun h hh => hlist_length (HG2.out.wf.harts h hh)) (by omega)
      obtain ⟨ao3, co3, rfl, -⟩ := hsh3.out.open
      obtain ⟨w9, hw9⟩ : ∃ w9, w9 = w8.alloc (.cells #[.slice am3 sb.mach.mem.length cm3, .slice ah3 sb.mach.harts.length ch3, .slice ao3 sb.out.length co3, .int .i64 sb.steps] 29) := ⟨_, rfl⟩
      have hb9 : Below w8.heap.size w8 w9 := by rw [hw9]; exact (by repeat (first | with_reducible exact Below.refl _ _ | with_reducible refine below_drewN ?_ _ | ((with_reducible refine Below.setCell ?_ ?hq _); case hq => (first | (simp; done) | (simp; omega))) | ((with_reducible refine Below.alloc ?_ ?hq _); case hq => (first | (simp; done) | (simp; omega)))))
      have hs9 : w8.heap.size + 1 ≤ w9.heap.size := by rw [hw9]; simp
      have hb39 : Below w3.heap.size w3 w9 := (HB7.out.trans (hb8.mono hs7)).trans (hb9.mono (by omega))
      obtain ⟨f0, f1, g0, g1, g2, g3⟩ := HFG.out
      have G0 := (hb39.cell (p := ⟨w2.heap.size, 0, none⟩) m2).trans g0
      have G1 := (hb39.cell (p := ⟨w2.heap.size, 1, none⟩) m2).trans g1
      have G2 := (hb39.cell (p := ⟨w2.heap.size, 2, none⟩) m2).trans g2
      have G3 := (hb39.cell (p := ⟨w2.heap.size, 3, none⟩) m2).trans g3
      have h0 : (w9).cell? ⟨w8.heap.size, 0, none⟩ = some (.slice am3 sb.mach.mem.length cm3) := by rw [hw9]; go_cell
      have h1 : (w9).cell? ⟨w8.heap.size, 1, none⟩ = some (.slice ah3 sb.mach.harts.length ch3) := by rw [hw9]; go_cell
      have h2 : (w9).cell? ⟨w8.heap.size, 2, none⟩ = some (.slice ao3 sb.out.length co3) := by rw [hw9]; go_cell
      have h3 : (w9).cell? ⟨w8.heap.size, 3, none⟩ = some (.int .i64 sb.steps) := by rw [hw9]; go_cell
      have HS9 : Hid (ShownAt w9 (.slice am3 sb.mach.mem.length cm3) (.slice ah3 sb.mach.harts.length ch3) (.slice ao3 sb.out.length co3) sb) := Lib.hid ⟨hsh3.mach.below hb9, hsh3.out.below hb9⟩
      have HT9 : Hid (ShownAt w9 (.slice am2 sa.mach.mem.length cm2) (.slice ah2 sa.mach.harts.length ch2) (.slice ao2 sa.out.length co2) sa) := Lib.hid ⟨HS3.out.mach.below hb39, HS3.out.out.below hb39⟩
      have HB9 := Lib.hid (HB3.out.trans (hb39.mono (by omega)))
      have HW9 := Lib.hid hw9
      have HPB9 := Lib.hid (HB3'.out.below hb39)
      have HMW9 : Hid (w3.heap.size ≤ w9.heap.size) := Lib.hid hb39.size
      clear F0 F1 f0 f1 g0 g1 g2 g3 hw9 hb9 hb8 hb39 hsh3 HRN HFG HB7
      go_upto_region 4 with (fail)
      rw [← HW9.out]
      by_cases hqa : qa = 0
      · by_cases hqb : qb = 0
        · obtain ⟨hq1, hq2⟩ := play_mach wf (HQB.out.symm.trans hqb)
          have hsa : sa = playM a (startM m) := HSA.out.trans ((HRD.out a).trans (if_pos hq1))
          have hsb : sb = playM (a ++ b) (startM m) := HSB.out.trans ((HRD.out (a ++ b)).trans (if_pos (HQB.out.symm.trans hqb)))
          rw [← hsa] at hq2
          have wfs : sa.mach.Wf := ⟨HG1.out.wf.mem, HG1.out.wf.harts⟩
          have HR3 := Lib.hid (run_any _ _ _ sa.mach wfs b w9 HT9.out.mach HPB9.out HPB.out)
          obtain ⟨st, hst⟩ : ∃ s, s = playM b (startM sa.mach) := ⟨_, rfl⟩
          rw [hq2, show runM sa.mach b = st from (if_pos hq2).trans hst.symm] at HR3
          have hgt : st.Good := by rw [hst]; exact playM_good b (startM_good wfs hq2)
          obtain ⟨r1, r2, r3, r4, r5, r6⟩ := wrong_parts hq2
          have hlt : 1 ≤ st.harts.length := by rw [hst, playM_len]; exact r2
          have hst1 : st.steps ≤ 120000 := by
            have := playM_steps b (startM sa.mach) (fun p hp => (r6 p hp).2.2.2)
            rw [← hst] at this
            have e : (startM sa.mach).steps = 0 := rfl
            omega
          have hsa1 : sa.steps ≤ 120000 := by
            obtain ⟨_, _, _, _, t5, t6⟩ := wrong_parts hq1
            have := playM_steps a (startM m) (fun p hp => (t6 p hp).2.2.2)
            rw [← hsa] at this
            have e : (startM m).steps = 0 := rfl
            omega
          have hpre : sb = st.pre sa.out sa.steps := by rw [hsb, hst, hsa]; exact playM_split m a b
          have hola := HG1.out.ol
          have holb := hgt.ol
          have HGT := Lib.hid hgt
          subst hqa hqb hpre
          clear hsa hsb hst hq1 hq2 r1 r2 r3 r4 r5 r6 hgt
          go_upto_region 6 with (fail)
          go_wp2_with fail
          refine HR3.out.mono ?_
          rintro e w10 ⟨⟨vm4, vh4, vo4, rfl, hsh4⟩, hb10⟩
          have hs10 := hb10.size
          obtain ⟨am4, cm4, rfl, -⟩ := hsh4.mach.1.open
          obtain ⟨ah4, ch4, rfl, -⟩ := hsh4.mach.2.open (fun h hh => hlist_length (HGT.out.wf.harts h hh)) (by omega)
          obtain ⟨ao4, co4, rfl, -, -, -, hno4⟩ := hsh4.out.open
          have hb910 := hb10
          have HSH4 := Lib.hid hsh4
          obtain ⟨w11, hw11⟩ : ∃ w11, w11 = w10.alloc (.cells #[.slice am4 st.mach.mem.length cm4, .slice ah4 st.mach.harts.length ch4, .slice ao4 st.out.length co4, .int .i64 st.steps] 29) := ⟨_, rfl⟩
          have hb11 : Below w10.heap.size w10 w11 := by rw [hw11]; exact (by repeat (first | with_reducible exact Below.refl _ _ | with_reducible refine below_drewN ?_ _ | ((with_reducible refine Below.setCell ?_ ?hq _); case hq => (first | (simp; done) | (simp; omega))) | ((with_reducible refine Below.alloc ?_ ?hq _); case hq => (first | (simp; done) | (simp; omega)))))
          have hs11 : w10.heap.size + 1 ≤ w11.heap.size := by rw [hw11]; simp
          have n1 : w2.heap.size < w9.heap.size := by have := HMW9.out; omega
          have n2 : w8.heap.size < w9.heap.size := by omega
          have hb911 := hb10.trans (hb11.mono hs10)
          have A2 := (hb911.cell (p := ⟨w2.heap.size, 2, none⟩) n1).trans G2
          have A3 := (hb911.cell (p := ⟨w2.heap.size, 3, none⟩) n1).trans G3
          have H0 : w11.cell? ⟨w8.heap.size, 0, none⟩ = some (.slice am3 st.mem.length cm3) := (hb911.cell (p := ⟨w8.heap.size, 0, none⟩) n2).trans h0
          have H1 : w11.cell? ⟨w8.heap.size, 1, none⟩ = some (.slice ah3 st.harts.length ch3) := (hb911.cell (p := ⟨w8.heap.size, 1, none⟩) n2).trans h1
          have H2 : w11.cell? ⟨w8.heap.size, 2, none⟩ = some (.slice ao3 (sa.out ++ st.out).length co3) := (hb911.cell (p := ⟨w8.heap.size, 2, none⟩) n2).trans h2
          have H3 : w11.cell? ⟨w8.heap.size, 3, none⟩ = some (.int .i64 ((sa.steps : Int) + (st.steps : Int))) := (hb911.cell (p := ⟨w8.heap.size, 3, none⟩) n2).trans h3
          have HSX : Hid (ShownAt w11 (.slice am3 st.mem.length cm3) (.slice ah3 st.harts.length ch3) (.slice ao3 (sa.out ++ st.out).length co3) (st.pre sa.out sa.steps)) := Lib.hid ⟨HS9.out.mach.below hb911, HS9.out.out.below hb911⟩
          have HXX := Lib.hid (And.intro H0 (And.intro H1 (And.intro H2 H3)))
          have z0 : (w11).cell? ⟨w10.heap.size, 0, none⟩ = some (.slice am4 st.mach.mem.length cm4) := by rw [hw11]; go_cell
          have z1 : (w11).cell? ⟨w10.heap.size, 1, none⟩ = some (.slice ah4 st.mach.harts.length ch4) := by rw [hw11]; go_cell
          have z2 : (w11).cell? ⟨w10.heap.size, 2, none⟩ = some (.slice ao4 st.out.length co4) := by rw [hw11]; go_cell
          have z3 : (w11).cell? ⟨w10.heap.size, 3, none⟩ = some (.int .i64 st.steps) := by rw [hw11]; go_cell
          have HFZ : Hid (∀ o, w11.frozen? ⟨w10.heap.size, o, none⟩ = false) := Lib.hid (fun o => by rw [hw11]; unfold World.frozen?; rw [heap_alloc_new]; simp)
          have zf3 := HFZ.out 3
          have zf2 := HFZ.out 2
          have HW11 := Lib.hid hw11
          have HB910 := Lib.hid hb10
          have HB1011 := Lib.hid hb11
          have A2' := (hb10.cell (p := ⟨w2.heap.size, 2, none⟩) n1).trans G2
          have HNO : Hid (st.out ≠ [] → ∀ k, (Value.slice ao4 st.out.length co4).ownBlock = some k → k < w10.heap.size) := Lib.hid (fun hne k e => by
            obtain ⟨b', off', rfl, hlt', _⟩ := hno4 hne
            cases e
            exact hlt')
          have HS4 : Hid (ShownAt w11 (.slice am4 st.mach.mem.length cm4) (.slice ah4 st.mach.harts.length ch4) (.slice ao4 st.out.length co4) st) := Lib.hid ⟨hsh4.mach.below hb11, hsh4.out.below hb11⟩
          obtain ⟨w12, hw12⟩ : ∃ w12, w12 = w11.setCell ⟨w10.heap.size, 3, none⟩ (.int .i64 ((sa.steps : Int) + (st.steps : Int))) := ⟨_, rfl⟩
          have HW12 := Lib.hid hw12
          clear hw11 hw12 hb11 hb10 hb911 hb910 hsh4 HR3 G0 G1 G2 G3 h0 h1 h2 h3
          go_upto_region 7 with (fail)
          rw [← HW11.out]
          go_upto_region 10 with (fail)
          rw [← HW12.out]
          have hs12 : w11.heap.size ≤ w12.heap.size := by rw [HW12.out]; simp
          have ln2 : w2.heap.size < w12.heap.size := by omega
          have hb12 : Below w10.heap.size w10 w12 := by rw [HW12.out]; exact (HB1011.out.setCell (p := ⟨w10.heap.size, 3, none⟩) (Nat.le_refl _) _)
          have hc12 : ∀ j, j ≠ 3 → w12.cell? ⟨w10.heap.size, j, none⟩ = w11.cell? ⟨w10.heap.size, j, none⟩ := fun j hj => by rw [HW12.out]; exact World.cell?_setCell_other _ _ _ _ (by intro e; injection e with _ e2; omega)
          have y0 := (hc12 0 (by omega)).trans z0
          have y1 := (hc12 1 (by omega)).trans z1
          have y2 := (hc12 2 (by omega)).trans z2
          have y3 : w12.cell? ⟨w10.heap.size, 3, none⟩ = some (.int .i64 ((sa.steps : Int) + (st.steps : Int))) := by rw [HW12.out]; exact World.cell?_setCell_same _ _ _ z3
          have yf : w12.frozen? ⟨w10.heap.size, 2, none⟩ = false := by rw [HW12.out]; exact (World.frozen?_setCell _ _ _ _).trans zf2
          have x2 : w12.cell? ⟨w2.heap.size, 2, none⟩ = some (.slice ao2 sa.out.length co2) := (hb12.cell (p := ⟨w2.heap.size, 2, none⟩) (show w2.heap.size < w10.heap.size by omega)).trans A2'
          have HO4 : Hid (Ints .u32 w12 (.slice ao4 st.out.length co4) st.out) := Lib.hid (by
            rw [HW12.out]
            exact ints_keep HS4.out.out (fun hne k e => by have := HNO.out hne k e; show k ≠ w10.heap.size; omega) _)
          have HO2 : Hid (Ints .u32 w12 (.slice ao2 sa.out.length co2) sa.out) := Lib.hid (HT9.out.out.below (HB910.out.trans (hb12.mono hs10)))
          have l12 : w10.heap.size < w12.heap.size := by omega
          have HY := Lib.hid (And.intro y0 (And.intro y1 (And.intro y3 hb12)))
          have HBL := Lib.hid (And.intro hola holb)
          clear z0 z1 z2 z3 zf2 zf3 A2 A3 hc12 y0 y1 y3 hb12 hola holb
          obtain ⟨u0, hu, hu0, hu1, hu2⟩ := info_parts info_u32r
          go_cut [] from 58 to 65 (fun wx => ∃ v6, Hid (Ints .u32 wx v6 (sa.out ++ st.out) ∧ Below w10.heap.size w10 wx ∧ wx.cell? ⟨w10.heap.size, 0, none⟩ = some (.slice am4 st.mach.mem.length cm4) ∧ wx.cell? ⟨w10.heap.size, 1, none⟩ = some (.slice ah4 st.mach.harts.length ch4) ∧ wx.cell? ⟨w10.heap.size, 2, none⟩ = some v6 ∧ wx.cell? ⟨w10.heap.size, 3, none⟩ = some (.int .i64 ((sa.steps : Int) + (st.steps : Int))) ∧ ∀ k, k < w12.heap.size → k ≠ w10.heap.size → wx.heap[k]? = w12.heap[k]?))
          case first =>
            go_region_law (first
              | (refine step_append_any (by rfl) (.tmp 58) (.tmp 60) _ rfl w12.heap.size 58 u0 _ 1 4 Try.underlying27 hu hu0 hu1 hu2 rfl (by omega) _ 0 [] (by rfl) (ownsRow_built w12 w12.heap.size 58 1 (Nat.le_refl _)).drew
                    (.slice ao2 sa.out.length co2) sa.out.length (sa.out.map (Value.int .u32)) (by rfl) (HO2.out.below (Below.drew (Below.alloc (Below.refl _ _) (Nat.le_refl _) _))) (by intro u hu; obtain ⟨y, _, rfl⟩ := List.mem_map.1 hu; rfl) (by have := HBL.out.1; omega) (by have := HBL.out.1; unfold maxLen; omega) (by show _ ≤ (World.alloc _ _).heap.size; simp) ?_
                 intro v5 w13 hown5 hgrow5
                 have hb13 : Below w12.heap.size w12 w13 := (Below.drew (Below.alloc (Below.refl _ _) (Nat.le_refl _) _)).grown hgrow5 (by show _ ≤ (World.alloc _ _).heap.size; simp) (by intro k hk; simp [Value.ownBlock] at hk; omega)
                 obtain ⟨a5', c5', rfl⟩ := owns_slice hown5
                 have hown5 : w13.ownsRow w12.heap.size 58 1 (.slice a5' sa.out.length c5') sa.out.length (sa.out.map (Value.int .u32)) := by simpa using hown5
                 have q2 := (hb13.cell (p := ⟨w10.heap.size, 2, none⟩) l12).trans y2)
              | (refine step_append_any (by rfl) (.tmp 61) (.tmp 63) _ rfl w12.heap.size 58 u0 _ 1 4 Try.underlying27 hu hu0 hu1 hu2 rfl (by omega) _ _ _ (by rfl) hown5
                    (.slice ao4 st.out.length co4) st.out.length (st.out.map (Value.int .u32)) (by rfl) (HO4.out.below hb13) (by intro u hu; obtain ⟨y, _, rfl⟩ := List.mem_map.1 hu; rfl) (by have := HBL.out; omega) (by have := HBL.out; unfold maxLen; omega) hb13.size ?_
                 intro v6 w14 hown6 hgrow6
                 have hb14 : Below w12.heap.size w12 w14 := hb13.grown hgrow6 hb13.size (fun g e => (hown5.lt g e).1)
                 obtain ⟨a6', c6', rfl⟩ := owns_slice hown6
                 have q2' := (hb14.cell (p := ⟨w10.heap.size, 2, none⟩) l12).trans y2
                 have qf' := (hb14.frozen (p := ⟨w10.heap.size, 2, none⟩) l12).trans yf))
            all_goals
              go_wp2_with fail
              go_meet
              case rel =>
                obtain ⟨y0, y1, y3, hb12⟩ := HY.out
                have hin : Ints .u32 w14 (.slice a6' (sa.out.length + st.out.length) c6') (sa.out ++ st.out) := by
                  unfold Ints
                  rw [List.length_append, List.map_append]
                  exact owns_sl hown6
                have hlo : ∀ g, (Value.slice a6' (sa.out.length + st.out.length) c6').ownBlock = some g → w12.heap.size ≤ g := fun g e => (hown6.lt g e).1
                have hne : ∀ (W : World) (j : Nat), j ≠ 2 → ∀ v, (W.setCell ⟨w10.heap.size, 2, none⟩ v).cell? ⟨w10.heap.size, j, none⟩ = W.cell? ⟨w10.heap.size, j, none⟩ := fun W j hj v => World.cell?_setCell_other _ _ _ _ (by intro e; injection e with _ e2; omega)
                exact ⟨_, Lib.hid ⟨ints_keep hin (fun _ k e => by have := hlo k e; show k ≠ w10.heap.size; omega) _, (hb12.trans (hb14.mono (by omega))).setCell (Nat.le_refl _) _, (hne _ 0 (by omega) _).trans ((hb14.cell (p := ⟨w10.heap.size, 0, none⟩) l12).trans y0), (hne _ 1 (by omega) _).trans ((hb14.cell (p := ⟨w10.heap.size, 1, none⟩) l12).trans y1), World.cell?_setCell_same _ _ _ q2', (hne _ 3 (by omega) _).trans ((hb14.cell (p := ⟨w10.heap.size, 3, none⟩) l12).trans y3), fun k hk hn => (Below.heap_setCell _ _ _ _ (by show k ≠ w10.heap.size; exact hn)).trans (hb14.block k hk)⟩⟩
          case rest =>
            obtain ⟨v6, HC⟩ := hcut
            obtain ⟨hin, hbw, e0, e1, e2, e3, hrest⟩ := HC.out
            have hblk : ∀ k, k < w10.heap.size → wc.heap[k]? = w10.heap[k]? := fun k hk => hbw.block k hk
            have n3 : w8.heap.size < w10.heap.size := by omega
            obtain ⟨X0, X1, X2, X3⟩ := HXX.out
            have hw8 : wc.heap[w8.heap.size]? = w11.heap[w8.heap.size]? := (hbw.block _ n3).trans (HB1011.out.block _ n3).symm
            have W0 := (cell_block hw8 0).trans X0
            have W1 := (cell_block hw8 1).trans X1
            have W2 := (cell_block hw8 2).trans X2
            have W3 := (cell_block hw8 3).trans X3
            have hb9c : Below w9.heap.size w9 wc := HB910.out.trans (hbw.mono hs10)
            have hsx : ShownAt wc (.slice am3 st.mem.length cm3) (.slice ah3 st.harts.length ch3) (.slice ao3 (sa.out ++ st.out).length co3) (st.pre sa.out sa.steps) := ⟨HS9.out.mach.below hb9c, HS9.out.out.below hb9c⟩
            have hst : MachAt wc (.slice am4 st.mach.mem.length cm4) (.slice ah4 st.mach.harts.length ch4) st.mach := HSH4.out.mach.below hbw
            have HSM := Lib.hid (same5 (.slice am3 st.mem.length cm3) (.slice ah3 st.harts.length ch3) (.slice ao3 (sa.out ++ st.out).length co3) (.slice am4 st.mach.mem.length cm4) (.slice ah4 st.mach.harts.length ch4) v6 st.mach (sa.out ++ st.out) ((sa.steps : Int) + (st.steps : Int)) wc ⟨HGT.out.wf.mem, HGT.out.wf.harts⟩ hsx.mach hst hsx.out hin)
            have HBC := Lib.hid (HB9.out.trans (hb9c.mono (by omega)))
            have hlt0 : 0 < st.harts.length := hlt
            have hsc : w.heap.size ≤ wc.heap.size := HBC.out.size
            clear hblk hsx hst hin hbw hrest X0 X1 X2 X3 hw8 hb9c H0 H1 H2 H3
            have n4 : w8.heap.size < wc.heap.size := lt_of_cell W1
            generalize Value.slice am3 st.mem.length cm3 = x0 at W0 HSM
            generalize Value.slice ao3 (sa.out ++ st.out).length co3 = x2 at W2 HSM
            generalize Value.int .i64 ((sa.steps : Int) + (st.steps : Int)) = x3 at W3 e3 HSM
            generalize Value.slice am4 st.mach.mem.length cm4 = y0 at e0 HSM
            generalize Value.slice ah4 st.mach.harts.length ch4 = y1 at e1 HSM
            clear HXX HSX HC HY HBL HS4 HO4 HO2 HNO HSH4 yf A2'
            go_wp2_with (first | (go_at_call 11; refine HSM.out.mono ?_; rintro e w16 ⟨rfl, hb16⟩; have V1 := (hb16.cell (p := ⟨w8.heap.size, 1, none⟩) n4).trans W1))
            go_ret
            exact ⟨rfl, HBC.out.trans (hb16.mono hsc)⟩
        · subst hqa
          go_wp2_with fail
          go_ret
          exact ⟨rfl, HB9.out⟩
      · have hqb : ¬ qb = 0 := by
          rw [HQB.out]
          rw [HQA.out] at hqa
          exact wrong_ahead wf hqa
        go_wp2_with fail
        go_ret
        refine ⟨?_, HB9.out⟩
        show Ending.returned (.bool (qa == 0 || qb != 0)) = _
        simp [hqb]
    all_goals first
      | (unfold maxLen; omega)
      | (simp; done)
      | (simp; omega)
      | omega
  all_goals first
    | exact Below.alloc (Below.refl _ _) (Nat.le_refl _) _
    | (unfold maxLen; omega)
    | (simp; done)
    | (simp; omega)
    | omega
open RowB in
set_option maxRecDepth 100000 in
set_option maxHeartbeats 1600000 in
theorem lifted (os : Os) (started : os.Started) (H : Type) (enc : TypeId × Value → H) (F : Stop.Interp) :
    ReturnsInHanded {} Try.checked os 3 .any ((Rows.OpenSpec.upto Rows.machineSplitsSpec).pre6 enc Try.prog Try.f3 Rows.machineSplitsUptoRow.domain false) (((Rows.OpenSpec.upto Rows.machineSplitsSpec).at F).post enc Try.prog Try.f3 false true false false) := by
  refine RowB.law_lifted_upto (C := Try.checked) (s := Rows.machineSplitsSpec) (k := Rows.uptoSmall) (tb := 4) (by kernel_rfl) started (by kernel_rfl) (by kernel_rfl)
    (OpenSpec.witness (enc := enc) (C := Try.checked) (s := Rows.OpenSpec.upto Rows.machineSplitsSpec) (k := Rows.uptoSmall) rfl false ⟨#[], #[.agg #[.slice none 0 0, .slice none 0 0], .slice none 0 0, .slice none 0 0], []⟩ 8 (by kernel_rfl) (by kernel_rfl) (by kernel_rfl) (x := ([.agg [.nil, .nil], .nil, .nil], [], [])) (by kernel_rfl) (by kernel_rfl) (by kernel_rfl))
    rfl (fun ds h => by match ds, h with | [_, _, _], _ => rfl) (by kernel_rfl) (by kernel_rfl) (by kernel_rfl) (of_decide_eq_true (by kernel_rfl)) ?_
  intro W base args ds ps hval hA _ hz hk
  have hp : (Try.f3).params.toList = [25, 26, 26] := by kernel_rfl
  rw [hp] at hA hz
  obtain ⟨v0, vs0, d0, ds0, p0, q0, hargs, rfl, rfl, h0, r0⟩ := ChangeShapes.trodAll_cons hA
  obtain ⟨v1, vs1, d1, ds1, p1, q1, rfl, rfl, rfl, h1, r1⟩ := ChangeShapes.trodAll_cons r0
  obtain ⟨v2, vs2, d2, ds2, p2, q2, rfl, rfl, rfl, h2, r2⟩ := ChangeShapes.trodAll_cons r1
  obtain ⟨rfl, rfl, rfl⟩ := ChangeShapes.trodAll_nil r2
  obtain rfl : args = #[v0, v1, v2] := by cases args; simp_all
  obtain ⟨z0, y0⟩ := weights_cons hz
  obtain ⟨z1, y1⟩ := weights_cons y0
  obtain ⟨z2, y2⟩ := weights_cons y1
  have k0 := hval 0 25 v0 (by kernel_rfl) rfl
  have k1 := hval 1 26 v1 (by kernel_rfl) rfl
  have k2 := hval 2 26 v2 (by kernel_rfl) rfl
  obtain ⟨⟨vm, vh, m⟩, rfl, hm, wf, _, _⟩ := opens_machine.arg Try.underlying25 k0 h0 z0
  obtain ⟨⟨va, a⟩, rfl, ha, hpa, _⟩ := opens_picks.argSlice (g := fun p : Value × List (Int × Int) => p.1) Try.underlying26 k1 h1 z1
  obtain ⟨⟨vb, b⟩, rfl, hb, hpb, _⟩ := opens_picks.argSlice (g := fun p : Value × List (Int × Int) => p.1) Try.underlying26 k2 h2 z2
  have hk' : Rows.uptoBulkAll [d0, d1, d2] ≤ 1048576 := of_decide_eq_true hk
  simp only [Rows.uptoBulkAll] at hk'
  obtain ⟨ao1, c1, e1, _⟩ := ha.open (fun _ _ => rfl) (by omega)
  obtain ⟨ao2, c2, e2, _⟩ := hb.open (fun _ _ => rfl) (by omega)
  have b1 : a.length ≤ _ := slice_bulk Try.underlying26 h1 e1
  have b2 : b.length ≤ _ := slice_bulk Try.underlying26 h2 e2
  exact walk vm vh v1 v2 m a b W hm wf ha hb hpa hpb (by omega) (by omega)
/-- THE STATEMENT -/
theorem proved : Rows.MachineSplitsUptoSaid :=
  OpenClaim.holds_of_cond 3 Try.f3 rfl rfl rfl rfl rfl rfl rfl ⟨rfl, rfl, rfl, rfl, rfl⟩ rfl rfl rfl rfl rfl (by kernel_rfl) Try.func3 (by kernel_rfl)
    (of_decide_eq_true (by kernel_rfl)) (by unfold Func.isWrapper; first | (rw [if_pos (by decide +kernel)]; kernel_rfl) | (rw [if_neg (by decide +kernel)]; exact ⟨rfl, rfl⟩))
    (fun os started H enc _ F => lifted os started H enc F)
#print axioms proved
end Go.Proofs.Ytlfnddmncbkjaac.MachineSplitsLaw
